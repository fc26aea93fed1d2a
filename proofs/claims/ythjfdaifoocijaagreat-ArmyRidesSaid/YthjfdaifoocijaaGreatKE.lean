/- Ground of laws of thronglaw21: contracts and plain lemmas; no condition beyond the row's own. -/
import Derived.Test.YthjfdaifoocijaaGreatKD
set_option linter.unusedSimpArgs false
set_option linter.unusedVariables false
namespace Go.V
def qA (id : Int) (e : AV × AV) : Bool := match e.1 with | .s (.int _ n) => id == n | _ => false
def qG (x y : Int) (e : AV × AV) : Bool := match e.1 with | .agg [.s (.int _ a), .s (.int _ b)] => (x == a && (y == b && true)) | _ => false
def xb (id : Int) (e : Ent) : Bool := id == e.1
def jz (k : Int × Int) (g : Grp) : Bool := (k.1 == g.x && (k.2 == g.y && true))
theorem atKey_iff {k : Int × Int} {g : Grp} : jz k g = true ↔ g.key = k := by grind[jz,Grp.key]
theorem Ld (l : List Ent) (id : Int) : (l.map qg).find? (qA id) = (l.find? (xb id)).map qg := by
 rw [List.find?_map]; rfl
theorem Do (l : List Ent) (id : Int) : (l.map qg).findIdx? (qA id) = l.findIdx? (xb id) := by
 rw [List.findIdx?_map]; rfl
theorem Bo (G : List Grp) (k : Int × Int) : (G.map qf).find? (qG k.1 k.2) = (G.find? (jz k)).map qf := by
 rw [List.find?_map]; rfl
theorem Dn (G : List Grp) (k : Int × Int) : (G.map qf).findIdx? (qG k.1 k.2) = G.findIdx? (jz k) := by
 rw [List.findIdx?_map]; rfl
theorem Dm {α : Type} {q : α -> Bool} {l : List α} {e : α} (h : l.find? q = some e) : e ∈ l /\ q e = true := ⟨List.mem_of_find?_eq_some h, List.find?_some h⟩
theorem zb7 {α : Type} {q : α -> Bool} {l : List α} {i : Nat} (h : l.findIdx? q = some i) : ∃ e, l[i]? = some e /\ q e = true /\ l.find? q = some e := by grind[List.findIdx?_eq_some_iff_getElem,Lb]
theorem G1 {α : Type} {q : α -> Bool} {l : List α} {e : α} (h : l.find? q = some e) : ∃ i, l.findIdx? q = some i /\ l[i]? = some e := by
 cases hi : l.findIdx? q with
 | none => grind
 | some i =>
  obtain ⟨e', h1, _, h3⟩ := zb7 hi
  grind
theorem zca {l : List Ent} (hn : (l.map (·.1)).Nodup) {i : Nat} {e : Ent} (hi : l[i]? = some e) : l.eraseIdx i = yf l e.1 := by
 induction l generalizing i with
 | nil => rfl
 | cons a l ih =>
  rw [List.map_cons, List.nodup_cons] at hn
  grind[List.eraseIdx_cons_zero,yf,List.filter_eq_self]
theorem zcc {l : List Ent} {id : Int} (h : l.find? (xb id) = none) : yf l id = l := by grind[yf,List.filter_eq_self,xb]
section
variable {a : Store} {p ma mi : Nat} {l : List Ent} {bs1 : List Nat} {c1 : Nat} {G : List Grp} {bs2 : List Nat} {c2 : Nat}
theorem CellsAt.p_ne (h : CellsAt a p ma mi l bs1 c1 G bs2 c2) : ma ≠ p /\ mi ≠ p := by
 refine ⟨fun e => ?_, fun e => ?_⟩
 ·have := h.ha; rw [e, h.hp] at this; cases this
 ·have := h.hi; rw [e, h.hp] at this; cases this
theorem CellsAt.g_ne (h : CellsAt a p ma mi l bs1 c1 G bs2 c2) {g : Grp} (hg : g ∈ G) : g.b ≠ ma /\ g.b ≠ mi /\ g.b ≠ p := by
 obtain ⟨h1, h2, h3⟩ := h.hg g hg
 refine ⟨fun e => ?_, fun e => ?_, h3⟩
 ·have := h.ha; grind
 ·have := h.hi; grind
/-- An object that is none of them is laid. -/
theorem CellsAt.other (h : CellsAt a p ma mi l bs1 c1 G bs2 c2) {b : Nat} (x : AObj) (hp : b ≠ p) (hma : b ≠ ma) (hmi : b ≠ mi) (hg : ∀ g ∈ G, b ≠ g.b) : CellsAt (a.setObj b x) p ma mi l bs1 c1 G bs2 c2 :=
 ⟨by rw [zj (Ne.symm hp)]; exact h.hp, by rw [zj (Ne.symm hma)]; exact h.ha, by rw [zj (Ne.symm hmi)]; exact h.hi, h.ne,
  fun g hg' => by rw [zj (Ne.symm (hg g hg'))]; exact h.hg g hg', h.nd⟩
theorem CellsAt.fresh (h : CellsAt a p ma mi l bs1 c1 G bs2 c2) {b : Nat} (x : AObj) (hb : Fresh a b) : CellsAt (a.setObj b x) p ma mi l bs1 c1 G bs2 c2 :=
 h.other x (hb.ne_obj h.hp) (hb.ne_obj h.ha) (hb.ne_obj h.hi) fun g hg => hb.ne_obj (h.hg g hg).1
theorem CellsAt.setA (h : CellsAt a p ma mi l bs1 c1 G bs2 c2) (l' : List Ent) (bs : List Nat) (c : Nat) : CellsAt (a.setObj ma (.map (l'.map qg) bs c)) p ma mi l' bs c G bs2 c2 :=
 ⟨by rw [zj (Ne.symm h.p_ne.1)]; exact h.hp, zc _ _ _, by rw [zj (Ne.symm h.ne)]; exact h.hi, h.ne,
  fun g hg => by rw [zj (h.g_ne hg).1]; exact h.hg g hg, h.nd⟩
theorem CellsAt.setI (h : CellsAt a p ma mi l bs1 c1 G bs2 c2) {G' : List Grp} (bs : List Nat) (c : Nat) (hg : ∀ g ∈ G', a.obj g.b = some (.cells (g.ns.map aI ++ g.L)) /\ g.fits /\ g.b ≠ p) (nd : (G'.map (·.b)).Nodup) :
  CellsAt (a.setObj mi (.map (G'.map qf) bs c)) p ma mi l bs1 c1 G' bs c :=
 ⟨by rw [zj (Ne.symm h.p_ne.2)]; exact h.hp, by rw [zj h.ne]; exact h.ha, zc _ _ _, h.ne,
  fun g hg' => by
   obtain ⟨h1, h2, h3⟩ := hg g hg'
   have : g.b ≠ mi := fun e => by have := h.hi; grind
   grind[zj], nd⟩
/-- The slice of one cell is turned, and its entry: before, what stands in the store. -/
structure CellsMid (a : Store) (p ma mi : Nat) (l : List Ent) (bs1 : List Nat) (c1 : Nat) (G : List Grp) (bs2 : List Nat) (c2 : Nat) (b : Nat) : Prop where
 hp : a.obj p = some (.cells [.s (.map (some ma)), .s (.map (some mi))])
 ha : a.obj ma = some (.map (l.map qg) bs1 c1)
 hi : a.obj mi = some (.map (G.map qf) bs2 c2)
 ne : ma ≠ mi
 hg : ∀ g ∈ G, g.b ≠ b -> a.obj g.b = some (.cells (g.ns.map aI ++ g.L)) /\ g.fits /\ g.b ≠ p
 nd : (G.map (·.b)).Nodup
theorem CellsAt.mid (h : CellsAt a p ma mi l bs1 c1 G bs2 c2) {b : Nat} (x : AObj) (hp : b ≠ p) (hma : b ≠ ma) (hmi : b ≠ mi) : CellsMid (a.setObj b x) p ma mi l bs1 c1 G bs2 c2 b :=
 ⟨by rw [zj (Ne.symm hp)]; exact h.hp, by rw [zj (Ne.symm hma)]; exact h.ha, by rw [zj (Ne.symm hmi)]; exact h.hi, h.ne,
  fun g hg' hne => by rw [zj hne]; exact h.hg g hg', h.nd⟩
theorem CellsMid.setI {b : Nat} (h : CellsMid a p ma mi l bs1 c1 G bs2 c2 b) {G' : List Grp} (bs : List Nat) (c : Nat) (hg : ∀ g ∈ G', (g ∈ G /\ g.b ≠ b) \/ (a.obj g.b = some (.cells (g.ns.map aI ++ g.L)) /\ g.fits /\ g.b ≠ p)) (nd : (G'.map (·.b)).Nodup) :
  CellsAt (a.setObj mi (.map (G'.map qf) bs c)) p ma mi l bs1 c1 G' bs c := by
 have hpi : mi ≠ p := fun e => by have := h.hi; rw [e, h.hp] at this; cases this
 refine ⟨by rw [zj (Ne.symm hpi)]; exact h.hp, by rw [zj h.ne]; exact h.ha, zc _ _ _, h.ne, fun g hg' => ?_, nd⟩
 have key : a.obj g.b = some (.cells (g.ns.map aI ++ g.L)) /\ g.fits /\ g.b ≠ p := by grind[hg]
 obtain ⟨h1, h2, h3⟩ := key
 have : g.b ≠ mi := fun e => by have := h.hi; grind
 grind[zj]
end
/-- One more in a cell. -/
theorem tt {a : Store} {p ma mi : Nat} {l : List Ent} {bs1 : List Nat} {c1 : Nat} {G : List Grp} {bs2 : List Nat} {c2 : Nat} (ha : CellsAt a p ma mi l bs1 c1 G bs2 c2) (hi : Inv l G) {id : Int} {pos : Vc} (hno : ∀ e ∈ l, e.1 ≠ id) :
  ∃ cur ns, j8 false (.s (.slice none 0 0)) ((G.find? (jz (zg pos))).map qf) = cur /\ Ints a cur ns /\ ns.Pairwise (· < ·) /\ (ns = [] \/ ∃ g ∈ G, ns = g.ns) /\ (∀ b cap, cur = .s (.slice (some ⟨b, 0, none⟩) ns.length cap) -> a.obj b ≠ none) ∧
   ∀ vb lit b cap L, Fresh a vb -> (Fresh (a.setObj vb lit) b \/ ∃ c0, cur = .s (.slice (some ⟨b, 0, none⟩) ns.length c0)) ->
    (ns.take (ns.countP (· < id)) ++ id :: ns.drop (ns.countP (· < id))).length <= cap -> cap <= (ns.take (ns.countP (· < id)) ++ id :: ns.drop (ns.countP (· < id))).length + L.length -> cap <= 9223372036854775807 ->
    ((a.setObj vb lit).setObj b (.cells ((ns.take (ns.countP (· < id)) ++ id :: ns.drop (ns.countP (· < id))).map aI ++ L))).obj mi = some (.map (G.map qf) bs2 c2) ∧
    ((a.setObj vb lit).setObj b (.cells ((ns.take (ns.countP (· < id)) ++ id :: ns.drop (ns.countP (· < id))).map aI ++ L))).obj p = some (.cells [.s (.map (some ma)), .s (.map (some mi))]) ∧
    ∃ G' bs2' c2', qs (G.map qf) bs2 c2 (qG (zg pos).1 (zg pos).2) (.agg [int (zg pos).1, int (zg pos).2]) (.s (.slice (some ⟨b, 0, none⟩) (ns.take (ns.countP (· < id)) ++ id :: ns.drop (ns.countP (· < id))).length cap)) = .map (G'.map qf) bs2' c2' ∧
     CellsAt (((a.setObj vb lit).setObj b (.cells ((ns.take (ns.countP (· < id)) ++ id :: ns.drop (ns.countP (· < id))).map aI ++ L))).setObj mi (.map (G'.map qf) bs2' c2')) p ma mi l bs1 c1 G' bs2' c2' /\ Inv (l ++ [(id, pos)]) G' := by
 obtain ⟨w1, w2⟩ := zaq (e := (id, pos)) hi hno
 cases hf : G.find? (jz (zg pos)) with
 | none =>
  refine ⟨_, [], rfl, .inl ⟨rfl, rfl⟩, List.Pairwise.nil, .inl rfl, fun b cap h => ?_, fun vb lit b cap L hvb hb h1 h2 h3 => ?_⟩
  ·simp [j8] at h
  have hb : Fresh (a.setObj vb lit) b := by grind[j8]
  simp only [List.countP_nil, List.take_nil, List.drop_nil, List.nil_append] at *
  have a1 := ha.fresh lit hvb
  have a2 := a1.fresh (.cells ([id].map aI ++ L)) hb
  refine ⟨a2.hi, a2.hp, G ++ [⟨(zg pos).1, (zg pos).2, [id], b, cap, L⟩], bs2 ++ [c2], c2 + 1, ?_, ?_, ?_⟩
  ·unfold qs
   have : G.findIdx? (jz (zg pos)) = none := by grind
   rw [Dn, this, List.map_append]
   rfl
  ·refine a2.setI _ _ (fun g hg => ?_) ?_
   ·rcases List.mem_append.1 hg with hg | hg
    ·exact a2.hg g hg
    ·simp at hg
     subst hg
     exact ⟨zc _ _ _, ⟨h1, h2, h3⟩, hb.ne_obj a1.hp⟩
   ·rw [List.map_append, List.nodup_append]
    refine ⟨ha.nd, by simp, fun x hx y hy => ?_⟩
    obtain ⟨g, hg, rfl⟩ := List.mem_map.1 hx
    simp at hy
    subst hy
    exact Ne.symm (hb.ne_obj (a1.hg g hg).1)
  ·refine w2 (fun g hg hk => ?_) _ rfl rfl
   grind[atKey_iff]
 | some g =>
  obtain ⟨hg, hk⟩ := Dm hf
  have hk := atKey_iff.1 hk
  obtain ⟨j, hj1, hj2⟩ := G1 hf
  obtain ⟨k1, k2, k3⟩ := ha.hg g hg
  obtain ⟨s1, s2⟩ := hi.s g hg
  have hnin : id ∉ g.ns := fun h => by
   obtain ⟨e, he, h1, _⟩ := (hi.m1 g hg id).1 h
   grind
  obtain ⟨i1, i2⟩ := zav s1 hnin
  refine ⟨_, g.ns, rfl, .inr ⟨g.b, g.cap, g.L, rfl, k1, k2⟩, s1, .inr ⟨g, hg, rfl⟩, fun b cap h => ?_, fun vb lit b cap L hvb hb h1 h2 h3 => ?_⟩
  ·grind[j8,qf]
  generalize g.ns.take (g.ns.countP (· < id)) ++ id :: g.ns.drop (g.ns.countP (· < id)) = ins at *
  have a1 := ha.fresh lit hvb
  have hbne : b ≠ p /\ b ≠ ma /\ b ≠ mi /\ ∀ g1 ∈ G, g1 ≠ g -> g1.b ≠ b := by
   rcases hb with hb | ⟨c0, hb⟩
   ·exact ⟨hb.ne_obj a1.hp, hb.ne_obj a1.ha, hb.ne_obj a1.hi, fun g1 hg1 _ => Ne.symm (hb.ne_obj (a1.hg g1 hg1).1)⟩
   ·have : g.b = b := by simp [j8, qf] at hb; exact hb.1
    subst this
    obtain ⟨n1, n2, n3⟩ := ha.g_ne hg
    refine ⟨n3, n1, n2, fun g1 hg1 hne he => hne ?_⟩
    obtain ⟨i, hi1⟩ := List.mem_iff_getElem?.1 hg1
    have := je (f := fun g : Grp => g.b) ha.nd hi1 hj2 he
    grind
  obtain ⟨n3, n1, n2, n4⟩ := hbne
  have mid := a1.mid (.cells (ins.map aI ++ L)) n3 n1 n2
  let g2 : Grp := ⟨g.x, g.y, ins, b, cap, L⟩
  have hmem : ∀ g1, g1 ∈ G.set j g2 -> g1 = g2 \/ (g1 ∈ G /\ g1 ≠ g) := fun g1 h => by
   rcases (jf (f := Grp.key) hi.n2 hj2).1 h with h | ⟨h, h'⟩
   ·grind
   grind
  refine ⟨mid.hi, mid.hp, G.set j g2, bs2, c2, ?_, ?_, w1 j g g2 hj2 hk rfl i1 i2⟩
  ·unfold qs
   rw [Dn, hj1, List.map_set]
   simp only
   congr 2
   show _ = (AV.agg [int g.x, int g.y], _)
   rw [<- hk]; rfl
  ·refine mid.setI _ _ (fun g1 h1' => ?_) ?_
   ·rcases hmem g1 h1' with rfl | ⟨q1, q2⟩
    ·exact .inr ⟨zc _ _ _, ⟨h1, h2, h3⟩, n3⟩
    grind
   ·rw [List.map_set]
    have hlt := (List.getElem?_eq_some_iff.1 hj2).1
    unfold List.Nodup
    rw [List.pairwise_iff_getElem]
    intro i1 i2 hl1' hl2 hlt12 he
    replace he := congrArg some he
    rw [<- List.getElem?_eq_getElem, <- List.getElem?_eq_getElem] at he
    rw [List.getElem?_set, List.getElem?_set] at he
    simp only [List.length_map, List.length_set] at hl2 he
    have nd := ha.nd
    by_cases e1 : j = i1
    ·subst e1
     rw [if_pos rfl, if_pos hlt, if_neg (by omega), List.getElem?_map, List.getElem?_eq_getElem hl2] at he
     simp at he
     refine n4 G[i2] (List.getElem_mem hl2) (fun e => ?_) he.symm
     have := je (f := Grp.key) hi.n2 (List.getElem?_eq_getElem hl2) hj2 (by rw [e])
     omega
    ·by_cases e2 : j = i2
     ·subst e2
      have hl1 : i1 < G.length := by omega
      rw [if_neg e1, if_pos rfl, if_pos hlt, List.getElem?_map, List.getElem?_eq_getElem hl1] at he
      simp at he
      refine n4 G[i1] (List.getElem_mem hl1) (fun e => ?_) he
      have := je (f := Grp.key) hi.n2 (List.getElem?_eq_getElem hl1) hj2 (by rw [e])
      omega
     ·have hl1 : i1 < G.length := by omega
      rw [if_neg e1, if_neg e2, List.getElem?_map, List.getElem?_map, List.getElem?_eq_getElem hl1, List.getElem?_eq_getElem hl2] at he
      simp at he
      have := je (f := fun g : Grp => g.b) nd (List.getElem?_eq_getElem hl1) (List.getElem?_eq_getElem hl2) he
      omega
theorem Ints.fresh {st : Store} {v : AV} {ns : List Int} (h : Ints st v ns) {b : Nat} (x : AObj) (hb : Fresh st b) : Ints (st.setObj b x) v ns := by
 rcases h with h | ⟨b1, cap, L, h1, h2, h3⟩
 ·exact .inl h
 ·exact .inr ⟨b1, cap, L, h1, by rw [zj (Ne.symm (hb.ne_obj h2))]; exact h2, h3⟩
/-- An append of one number to numbers over an object. -/
theorem Mj {P : Program} {c : Cfg} {e : TypeId} {ie : TI} (hie : c.I e = some ie) (hsz : ie.size = 1) (hby : ie.bytes = 8) {st : Store} {v : AV} {ns : List Int} (hv : Ints st v ns) (x : Int) (hlen : ns.length <= 1000000000000) {K : AV -> Store -> Prop}
  (h : ∀ b cap L, (Fresh st b \/ ∃ c0, v = .s (.slice (some ⟨b, 0, none⟩) ns.length c0)) -> (ns ++ [x]).length <= cap -> cap <= (ns ++ [x]).length + L.length -> cap <= 9223372036854775807 ->
   K (.s (.slice (some ⟨b, 0, none⟩) (ns ++ [x]).length cap)) (st.setObj b (.cells ((ns ++ [x]).map aI ++ L)))) : appendK P c st e (.av v) (.av (.lst 1 [[aI x]] none)) K := by
 have hrows : xk ie.size (.av (.lst 1 [[aI x]] none)) = some [[aI x]] := by simp [xk, hsz]
 refine ⟨.inr ⟨v, _, rfl, rfl, ?_⟩⟩
 have hl : (ns ++ [x]).length = ns.length + 1 := by simp
 rcases hv with ⟨rfl, rfl⟩ | ⟨b, cap, L, rfl, ho, h1, h2, h3⟩
 ·refine Mi hie hrows ⟨by grind, by simp⟩ (by simp) (fun b' cap' hb hc hc2 => ?_)
  grind
 ·refine Mh hie (cap := cap) ho (by grind) h1 hrows ⟨by grind, by grind⟩ (fun hc => ?_) (fun hc b' cap' hb hc1 hc2 => ?_)
  ·have hc : ns.length + 1 <= cap := hc
   have e1 : z6 (ns.map aI ++ L) (ns.length * ie.size) ([[aI x]] : List (List AV)).flatten = (ns ++ [x]).map aI ++ L.drop 1 := by simp_all[wh]
   have e0 : ns.map (fun n => AV.s (.int .i64 n)) ++ L = ns.map aI ++ L := rfl
   have := h b cap (L.drop 1) (.inr ⟨cap, rfl⟩) (by omega) (by grind) h3
   grind
  ·have hc1 : ns.length + 1 <= cap' := hc1
   have e1 : (ns.map aI ++ L).take (ns.length * ie.size) ++ ([[aI x]] : List (List AV)).flatten ++ List.replicate ((cap' - (ns.length + 1)) * ie.size) .any = (ns ++ [x]).map aI ++ List.replicate (cap' - (ns.length + 1)) .any := by simp_all
   have := h b' cap' (List.replicate (cap' - (ns.length + 1)) .any) (.inl hb) (by omega) (by grind) hc2
   rw [hl, <- e1] at this
   exact this
/-- What Near holds beside the cells. -/
structure NearAt (N : Store) (b3 b4 b5 b6 p : Nat) (q : Vc) (r : Int) (v : AV) (acc : List Int) : Prop where
 h3 : N.obj b3 = some (.cells [.s (.pointer (some ⟨p, 0, none⟩))])
 h4 : N.obj b4 = some (.cells (zn q))
 h5 : N.obj b5 = some (.cells [int r])
 h6 : N.obj b6 = some (.cells [v])
 hv : Ints N v acc
 n36 : b3 ≠ b6
 n46 : b4 ≠ b6
 n56 : b5 ≠ b6
 nv : ∀ b n cap, v = .s (.slice (some ⟨b, 0, none⟩) n cap) -> b ≠ b3 /\ b ≠ b4 /\ b ≠ b5 /\ b ≠ b6
theorem NearAt.app {N : Store} {b3 b4 b5 b6 p : Nat} {q : Vc} {r : Int} {v : AV} {acc : List Int} (h : NearAt N b3 b4 b5 b6 p q r v acc) {b cap : Nat} {L : List AV} {x : Int}
  (hb : Fresh N b \/ ∃ c0, v = .s (.slice (some ⟨b, 0, none⟩) acc.length c0)) (h1 : (acc ++ [x]).length <= cap) (h2 : cap <= (acc ++ [x]).length + L.length) (h3 : cap <= 9223372036854775807) :
  NearAt ((N.setObj b (.cells ((acc ++ [x]).map aI ++ L))).setObj b6 (.cells [.s (.slice (some ⟨b, 0, none⟩) (acc ++ [x]).length cap)])) b3 b4 b5 b6 p q r (.s (.slice (some ⟨b, 0, none⟩) (acc ++ [x]).length cap)) (acc ++ [x]) := by
 have hne : b ≠ b3 /\ b ≠ b4 /\ b ≠ b5 /\ b ≠ b6 := by
  rcases hb with hb | ⟨c0, hb⟩
  ·exact ⟨hb.ne_obj h.h3, hb.ne_obj h.h4, hb.ne_obj h.h5, hb.ne_obj h.h6⟩
  ·exact h.nv b _ _ hb
 obtain ⟨n3, n4, n5, n6⟩ := hne
 refine ⟨?_, ?_, ?_, zc _ _ _, .inr ⟨b, cap, L, rfl, ?_, h1, h2, h3⟩, h.n36, h.n46, h.n56, fun b' n c e => ?_⟩
 ·rw [zj h.n36, zj (Ne.symm n3)]; exact h.h3
 ·rw [zj h.n46, zj (Ne.symm n4)]; exact h.h4
 ·rw [zj h.n56, zj (Ne.symm n5)]; exact h.h5
 ·rw [zj n6, zc]; rfl
 grind
theorem Ints.un {a g : Store} {v : AV} {ns : List Int} (h : Ints g v ns) : Ints (a.un g) v ns := by
 rcases h with h | ⟨b1, cap, L, h1, h2, h3⟩
 ·exact .inl h
 ·exact .inr ⟨b1, cap, L, h1, zf h2, h3⟩
section
variable {P : Program} {c : Cfg} {w : World} {st : Store} {Oth M : Nat -> Nat -> Prop}
/-- A map's stamps, as every world has them. -/
structure Stamps (es : List (AV × AV)) (bs : List Nat) (clk : Nat) : Prop where
  len : es.length = bs.length
  lt : ∀ t ∈ bs, t < clk
  inc : bs.Pairwise (· < ·)
/-- What holds of a map in every world may be used. -/
theorem zeq {o : Oper} {args : List AV} {m clk : Nat} {es : List (AV × AV)} {bs : List Nat} (hm : st.obj m = some (.map es bs clk)) {R : AV -> Store -> Prop} (h : Stamps es bs clk -> AEff P c o args st R) : AEff P c o args st R := by
  refine ⟨fun Oth M w ρ hI sto hr => ?_⟩
  obtain ⟨⟨ms, g1, g2, g3, g4, g5, g6⟩, hM⟩ := sto.obj m _ hm
  exact (h ⟨by grind, g5, g6⟩).out Oth M w ρ hI sto hr
theorem zb5 {t : Nat} {me : MapEntry} : ∀ {L : List MapEntry} {i : Nat}, (L.map (·.born)).Pairwise (· < ·) -> L[i]? = some me -> me.born = t -> L.find? (fun e => e.born == t) = some me := by
  intro L
  induction L with
  | nil => simp
  | cons a L ih =>
    grind[List.pairwise_cons]
theorem zet {o : Oper} {x : Operand} (ho : o.op = .entry x) {b m clk since : Nat} {es : List (AV × AV)} {bs seen : List Nat} {i t : Nat} {e : AV × AV} (hb : st.obj b = some (.iter m since (seen ++ [t]) clk)) (hm : st.obj m = some (.map es bs clk))
    (he : es[i]? = some e) (hbi : bs[i]? = some t) {R : AV -> Store -> Prop} (h : R (.tup [e.1, e.2]) st) : AEff P c o [.s (.pointer (some ⟨b, 0, none⟩))] st R := by
  refine ⟨fun Oth M w ρ hI sto hr => ?_⟩
  rw [ho] at hr
  have hr : Reads w (fun b o => M b o \/ Oth b o) [.s (.pointer (some ⟨b, 0, none⟩))] [ρ x] := by simpa [Op.operands] using hr
  obtain ⟨u, hx0, hx⟩ := Ba hr
  simp only [List.cons.injEq, and_true] at hx0
  rw [<- hx0] at hx
  have hx := VRel.eq_s hx
  obtain ⟨⟨ms, g1, g2, g3, g4, g5, g6⟩, hM⟩ := sto.obj m _ hm
  obtain ⟨hit, hMb⟩ := sto.obj b _ hb
  have hit : w.heap[b]? = some (.mapIter (some m) since (seen ++ [t]).toArray clk) := hit
  have hgo : (getObj b).run P w = .ok (.mapIter (some m) since (seen ++ [t]).toArray clk) w := by simp [getObj, Sem.run, hit]
  have hlt : i < ms.size := by grind
  have hmi : ms[i]? = some ms[i] := Array.getElem?_eq_getElem hlt
  have hbt : ms[i].born = t := by grind
  have hfind : ms.find? (fun e => e.born == t) = some ms[i] := by
    rw [<- Array.find?_toList]
    exact zb5 (by grind) (by rw [Array.getElem?_toList]; exact hmi) hbt
  have hback : (seen ++ [t]).toArray.back? = some t := by simp
  have hrun : (execOp ρ o).run P w = .ok (.value (.tuple #[ms[i].key, ms[i].val])) w := by
    simp only [execOp, ho, Instr.entry, hx, Sem.run_bind, hgo, Result.andThen_ok, hback, xy g1, bne_self_eq_false, Bool.false_eq_true, if_false, hfind, Sem.run_pure]
  rw [hrun]
  have hrel := g3 i e ms[i] he hmi
  exact ⟨_, st, M, h, xn (Reads.cons hrel.1 (Reads.cons hrel.2 Reads.nil)), sto, Chg.refl _ _⟩
end
theorem Kl {x r : Int} (hx : 0 <= x) (hr : 0 < r) (h : x * x < r * r) : x < r := by
 by_cases h1 : x < r
 ·exact h1
 ·have h2 : r <= x := by omega
  have h3 : r * r <= x * x := Int.mul_le_mul h2 h2 (by omega) hx
  omega
theorem Ll {a b r : Int} (ha : zl a) (hb : zl b) (hr : 0 < r) (hr2 : r <= 9223372036854775807) (h : asz (zw a b) < r) : zw a r <= nrm b /\ nrm b <= yb a r := by grind[qr,Cu,nrm,zw,asz,yb,xa]
/-- Who is near stands in a cell between. -/
theorem uu {q p : Vc} {r : Int} (hq : q.ok) (hp : p.ok) (hr : 0 < r) (hr2 : r <= 9223372036854775807) (h : near q p r = true) :
  ((zg (zw q.1 r, zw q.2 r)).1 <= (zg p).1 /\ (zg p).1 <= (zg (yb q.1 r, yb q.2 r)).1) /\ ((zg (zw q.1 r, zw q.2 r)).2 <= (zg p).2 /\ (zg p).2 <= (zg (yb q.1 r, yb q.2 r)).2) := by
 unfold near at h
 have h := (of_decide_eq_true h).2
 have e1 := vf (k6 q.1 p.1)
 have e2 := vf (k6 q.2 p.2)
 have m1 : 0 <= asz (zw q.1 p.1) * asz (zw q.1 p.1) := Int.mul_nonneg e1.1 e1.1
 have m2 : 0 <= asz (zw q.2 p.2) * asz (zw q.2 p.2) := Int.mul_nonneg e2.1 e2.1
 have h' : asz (zw q.1 p.1) * asz (zw q.1 p.1) + asz (zw q.2 p.2) * asz (zw q.2 p.2) < r * r := h
 have d1 := Ll hq.1 hp.1 hr hr2 (Kl e1.1 hr (by omega))
 have d2 := Ll hq.2 hp.2 hr hr2 (Kl e2.1 hr (by omega))
 grind[Cu,Gy,zg]
theorem s4 {q : Vc} {r : Int} (hq : q.ok) (hr : 0 < r) (hr2 : r <= 9223372036854775807) :
  (zg (zw q.1 r, zw q.2 r)).1 <= (zg (yb q.1 r, yb q.2 r)).1 /\ (zg (zw q.1 r, zw q.2 r)).2 <= (zg (yb q.1 r, yb q.2 r)).2 := by
 have key : ∀ a : Int, zl a -> zw a r <= yb a r := by grind[zw,yb,xa,nrm]
 have k1 := key q.1 hq.1
 have k2 := key q.2 hq.2
 grind[Cu,Gy,zg]
theorem L4 {p : Vc} (h : p.ok) : (-70368744177664 <= (zg p).1 /\ (zg p).1 <= 70368744177664) /\ (-70368744177664 <= (zg p).2 /\ (zg p).2 <= 70368744177664) := by
 have h1 := qr h.1
 have h2 := qr h.2
 unfold zg
 omega
/-- Those near in the cells that are done. -/
def NearIn (l : List Ent) (q : Vc) (r : Int) (D : Ent -> Prop) (acc : List Int) : Prop := acc.Nodup /\ ∀ id, id ∈ acc ↔ ∃ e ∈ l, e.1 = id /\ near q e.2 r = true /\ D e
theorem NearIn.congr {l : List Ent} {q : Vc} {r : Int} {D D' : Ent -> Prop} {acc : List Int} (h : NearIn l q r D acc) (hD : ∀ e ∈ l, near q e.2 r = true -> (D e ↔ D' e)) : NearIn l q r D' acc := by
 refine ⟨h.1, fun id => ?_⟩
 rw [h.2 id]
 grind
theorem NearIn.len {l : List Ent} {q : Vc} {r : Int} {D : Ent -> Prop} {acc : List Int} (h : NearIn l q r D acc) : acc.length <= l.length := by
 have := List.Nodup.length_le_of_subset (l₂ := l.map (·.1)) h.1 (fun id hid => by
  obtain ⟨e, h1, h2, _⟩ := (h.2 id).1 hid
  grind)
 grind
/-- One more is looked at. -/
theorem NearIn.step {l : List Ent} (hn : (l.map (·.1)).Nodup) {q : Vc} {r : Int} {D : Ent -> Prop} {acc : List Int} (h : NearIn l q r D acc) {e : Ent} (he : e ∈ l) (hD : ¬ D e) : NearIn l q r (fun e' => D e' \/ e' = e) (if near q e.2 r then acc ++ [e.1] else acc) := by
 cases hnr : near q e.2 r with
 | false =>
  refine h.congr fun e' he' hn' => ⟨.inl, fun hh => hh.elim id fun hh => ?_⟩
  grind
 | true =>
  refine ⟨?_, fun id => ?_⟩
  ·rw [if_pos rfl, List.nodup_append]
   refine ⟨h.1, by simp, fun a ha b hb => ?_⟩
   simp at hb
   subst hb
   intro hab
   subst hab
   obtain ⟨e', h1, h2, _, h4⟩ := (h.2 _).1 ha
   grind[Bl]
  ·rw [if_pos rfl, List.mem_append, h.2 id]
   grind
theorem za6 {l : List Ent} {G : List Grp} (h : Inv l G) : G.length <= l.length := by
 have h1 : (G.map fun g => g.ns.headD 0).Nodup := by
  unfold List.Nodup
  rw [List.pairwise_map]
  have n2 := h.n2
  unfold List.Nodup at n2
  rw [List.pairwise_map] at n2
  have key : ∀ g ∈ G, g.ns.headD 0 ∈ g.ns := fun g hg => by
   have := (h.s g hg).2
   cases hns : g.ns with
   | nil => grind
   | cons a t => simp
  rw [List.pairwise_iff_getElem] at n2 ⊢
  intro i j hi hj hij he
  obtain ⟨e1, q1, q2, q3⟩ := (h.m1 G[i] (List.getElem_mem hi) _).1 (key _ (List.getElem_mem hi))
  obtain ⟨e2, q4, q5, q6⟩ := (h.m1 G[j] (List.getElem_mem hj) _).1 (key _ (List.getElem_mem hj))
  refine n2 i j hi hj hij ?_
  rw [<- q3, <- q6, Bl h.n1 q4 q1 (by omega)]
 have := List.Nodup.length_le_of_subset (l₂ := l.map (·.1)) h1 (fun id hid => by
  obtain ⟨g, hg, rfl⟩ := List.mem_map.1 hid
  have := (h.s g hg).2
  cases hns : g.ns with
  | nil => grind
  | cons a t =>
   obtain ⟨e, q1, q2, _⟩ := (h.m1 g hg a).1 (by grind)
   grind)
 grind
theorem u5 {xs : List Int} (h : xs.Nodup) : (xs.mergeSort fun x y => decide (x <= y)).Pairwise (· < ·) /\ ∀ n, n ∈ (xs.mergeSort fun x y => decide (x <= y)) ↔ n ∈ xs := by
 have h1 := List.pairwise_mergeSort (le := fun x y : Int => decide (x <= y)) (fun a b c h1 h2 => by grind) (fun a b => by grind) xs
 have h2 : (xs.mergeSort fun x y => decide (x <= y)).Nodup := (List.mergeSort_perm xs _).nodup_iff.2 h
 refine ⟨?_, fun n => List.mem_mergeSort⟩
 have h3 := h1.and h2
 grind
/-- The numbers of those near. -/
def Bz (l : List Ent) (q : Vc) (r : Int) (ns : List Int) : Prop := ns.Pairwise (· < ·) /\ ∀ id, id ∈ ns ↔ ∃ e ∈ l, e.1 = id /\ near q e.2 r = true
theorem H2 {a g : Store} {b : Nat} {x : AObj} (h : ¬ g.has b) : (a.un g).setObj b x = (a.setObj b x).un g := by
 obtain ⟨h1, h2⟩ := wo h
 unfold Store.un Store.setObj
 grind[ya]
theorem zcj {a g : Store} {b : Nat} {x : AObj} (h : zv a g) (hb : ¬ g.has b) : zv (a.setObj b x) g := by
 intro i hi hg
 rcases has_setObj_iff.1 hi with rfl | hi
 ·grind
 ·exact h i hi hg
theorem zci {a g : Store} {b : Nat} {x y : AObj} (h : zv (a.setObj b x) g) : zv (a.setObj b y) g /\ ¬ g.has b := by
 have h1 : ¬ g.has b := h b (has_setObj_iff.2 (.inl rfl))
 refine ⟨fun i hi hg => ?_, h1⟩
 rcases has_setObj_iff.1 hi with rfl | hi
 ·grind
 ·exact h i (has_setObj_iff.2 (.inr hi)) hg
theorem La {l : List Ent} (hn : (l.map (·.1)).Nodup) {e : Ent} (he : e ∈ l) : l.find? (xb e.1) = some e := by
 cases hf : l.find? (xb e.1) with
 | none =>
  grind[xb]
 | some e' =>
  grind[xb,Bl]
def jg : Option Nat -> Int | some i => (i : Int) | none => -1
theorem Ds (a : Store) : Store.empty.un a = a := by
 unfold Store.un Store.empty
 congr <;> funext i
 ·grind
 grind
theorem disj_un {a b c : Store} : zv (a.un b) c ↔ zv a c /\ zv b c :=
 ⟨fun h => ⟨fun i h1 => h i (un_has.2 (.inl h1)), fun i h1 => h i (un_has.2 (.inr h1))⟩, fun ⟨h1, h2⟩ i h => (un_has.1 h).elim (h1 i) (h2 i)⟩
theorem Nf {a g : Store} : (a.un g).Le g := ⟨fun b y h => ⟨y, zf h, AObj.le_refl y⟩, fun b x h => vi h⟩
/-- From a store that says more. -/
theorem AWp.leS {P : Program} {c : Cfg} {code : Code} {Q : Exit -> Fr -> Store -> Prop} {A : Fr} {st st' : Store} (hle : st.Le st') (h : AWp P c code Q A st') : AWp P c code Q A st := by
 refine ⟨fun Oth M a w ⟨β, s⟩ => h.out Oth M a w ⟨β, { tsz := s.tsz, dfr := s.dfr, tm := s.tm, bx := s.bx, inj := s.inj, sep := fun k b hk hb => s.sep k b hk ?_, sto := s.sto.weakenLe hle }⟩⟩
 rcases hb with hb | hb
 ·cases hx : st'.obj b with
  | none => grind
  | some y =>
   obtain ⟨x, h1, _⟩ := hle.obj b y hx
   grind
 ·cases hx : st'.tok b with
  | none => grind
  | some y => exact .inr (by rw [hle.tok b y hx]; simp)
/-- A list reads on. -/
theorem vn {st : Store} {x : AV} {Oth M : Nat -> Nat -> Prop} {w : World} {v : Value} (h : VRel w (fun b o => M b o \/ Oth b o) x v) : VRel w (fun b o => (M b o \/ Oth b o) /\ st.obj b = none) x v :=
 h.mono fun _ _ h => h.1
/-- A building, a unit, a world. -/
structure Bld where
 id : Int
 owner : Int
 x : Int
 y : Int
 w : Int
 h : Int
 deriving DecidableEq
structure Unt where
 id : Int
 owner : Int
 kind : Int
 pos : Vc
 goal : Int
 next : Int
 stuck : Int
 inn : Int
 state : Int
 deriving DecidableEq
structure Wld where
 tick : Int
 players : Int
 next : Int
 G : Gnd
 B : List Bld
 U : List Unt
 deriving DecidableEq
def zo (b : Bld) : List AV := [int b.id, int b.owner, int b.x, int b.y, int b.w, int b.h]
def zi (u : Unt) : List AV := [int u.id, int u.owner, int u.kind, int u.pos.1, int u.pos.2, int u.goal, int u.next, int u.stuck, int u.inn, int u.state]
def zp (w : Wld) : List AV := [int w.tick, int w.players, int w.next, int w.G.W, int w.G.H, xl w.G.T, lst 6 zo w.B, lst 10 zi w.U]
def Wld.fits (w : Wld) : Prop := w.G.fits /\ w.B.length <= 1000000000000 /\ w.U.length <= 1000000000000
structure Ask21 where
 W : Wld
 I : List Int
 K : List Int
 P : List Vc
def kk (a : Ask21) : List AV := zp a.W ++ [kx a.I, kx a.K, lst 2 zn a.P]
/-- Kinds. -/
def yc (k : Int) : Int := if k = 0 then 24576 else if k = 2 then 81920 else 32768
def Gq (k : Int) : Int := if k = 0 then 16384 else if k = 1 then 24576 else if k = 2 then 8192 else 16384
def xq (k : Int) : Int := if k = 0 then 0 else if k = 1 then 1 else if k = 2 then 0 else 2
def Bh (k : Int) : Int := if k = 2 then 1 else 0
def yv (k : Int) : Int := if k = 0 then 0 else if k = 1 then 0 else if k = 2 then 0 else 4
def vp (k : Int) : List AV := [int (yc k), int (Gq k), int (xq k), int (Bh k), int (yv k)]
def qy (k : Int) : Prop := 0 <= k /\ k <= 3
def j6 (c : Int) (t : Nat) : Int := ((if c = 0 then [2, 1, 3, 5, 0, 0] else if c = 1 then [2, 1, 6, 0, 0, 0] else [2, 1, 0, 3, 2, 0]) : List Int).getD t 0
/-- Buildings. -/
def zy (b : Bld) : Prop := (1 <= b.id /\ b.id <= 1099511627776) /\ (1 <= b.owner /\ b.owner <= 8) /\ (1 <= b.w /\ b.w <= 4) /\ (1 <= b.h /\ b.h <= 4)
def onP (g : Gnd) (b : Bld) : Prop := (0 <= b.x /\ b.x + b.w <= g.W) /\ (0 <= b.y /\ b.y + b.h <= g.H)
def qe (g : Gnd) (b : Bld) (t : Nat) : Prop := (b.x <= (t : Int) % g.W /\ (t : Int) % g.W < b.x + b.w) /\ (b.y <= (t : Int) / g.W /\ (t : Int) / g.W < b.y + b.h)
instance (g : Gnd) (b : Bld) (t : Nat) : Decidable (qe g b t) := inferInstanceAs (Decidable (_ /\ _))
def jv (g : Gnd) (b : Bld) : Prop := ∀ t, t < g.T.length -> qe g b t -> (g.T.getD t 0).toNat <= 1
def x4 (a b : Bld) : Prop := (a.x < b.x + b.w /\ b.x < a.x + a.w) /\ (a.y < b.y + b.h /\ b.y < a.y + a.h)
def Az (l : List Bld) : Prop := ∀ j, (h : j < l.length) -> 0 < j -> (l[j - 1]'(by omega)).id < l[j].id
def y6 (l : List Unt) : Prop := ∀ j, (h : j < l.length) -> 0 < j -> (l[j - 1]'(by omega)).id < l[j].id
def D6 (l : List Bld) : Prop := ∀ j, (h : j < l.length) -> ∀ i, (hi : i < j) -> ¬ x4 l[j] (l[i]'(by omega))
def vd (g : Gnd) (l : List Bld) : Prop := l.length <= 256 /\ Az l /\ (∀ b ∈ l, zy b /\ onP g b /\ jv g b) /\ D6 l
def yd (g : Gnd) (l : List Bld) (t : Nat) : Bool := l.any fun b => decide (qe g b t)
def yj (g : Gnd) (l : List Bld) (c : Int) (t : Nat) : Bool := !yd g l t && decide (0 < j6 c (g.T.getD t 0).toNat)
/-- Discs. -/
def tx (g : Gnd) (t : Nat) : Int := (t : Int) % g.W * 65536
def ty (g : Gnd) (t : Nat) : Int := (t : Int) / g.W * 65536
def off (x lo : Int) : Int := if x < lo then lo - x else if x > lo + 65536 then x - (lo + 65536) else 0
def qd (g : Gnd) (t : Nat) (p : Vc) (r : Int) : Prop := off p.1 (tx g t) * off p.1 (tx g t) + off p.2 (ty g t) * off p.2 (ty g t) < r * r
instance (g : Gnd) (t : Nat) (p : Vc) (r : Int) : Decidable (qd g t p r) := inferInstanceAs (Decidable (_ < _))
def kg (g : Gnd) (l : List Bld) (c : Int) (p : Vc) (r : Int) : Prop :=
 ((r <= p.1 /\ p.1 + r <= g.W * 65536) /\ (r <= p.2 /\ p.2 + r <= g.H * 65536)) /\ ∀ t, t < g.T.length -> yj g l c t = false -> ¬ qd g t p r
def xc (p : Vc) (r : Int) (q : Vc) (s : Int) : Bool := !near p q (r + s)
def y8 (w : Wld) (id k : Int) (p : Vc) : Prop :=
 kg w.G w.B (xq k) p (yc k) /\ ∀ u ∈ w.U, u.inn = 0 -> u.id ≠ id -> xc p (yc k) u.pos (yc u.kind) = true
/-- Worlds. -/
def xp (g : Gnd) (t : Int) : Prop := t = -1 \/ (0 <= t /\ t < g.W * g.H)
def jl (w : Wld) (u : Unt) : Prop :=
 ((1 <= u.id /\ u.id < w.next) /\ (1 <= u.owner /\ u.owner <= w.players) /\ qy u.kind) /\ (xp w.G u.goal /\ xp w.G u.next /\ (0 <= u.stuck /\ u.stuck < 8)) ∧
 ((0 <= u.state /\ u.state <= 4) /\ (u.state = 1 ↔ u.goal ≠ -1)) /\ (u.goal = -1 -> u.next = -1 /\ u.stuck = 0)
def k5 (w : Wld) : Prop :=
 ((0 <= w.tick /\ w.tick <= 1099511627776) /\ (1 <= w.players /\ w.players <= 8) /\ (1 <= w.next /\ w.next <= 1099511627776)) ∧
 (zt w.G /\ vd w.G w.B /\ w.U.length <= 4096) /\ ∀ b ∈ w.B, b.owner <= w.players /\ b.id < w.next
def vh (w : Wld) : Prop := y6 w.U /\ ∀ u ∈ w.U, jl w u /\ ∀ b ∈ w.B, b.id ≠ u.id
def zq (l : List Unt) (id : Int) : List Int := (l.filter fun u => u.inn == id).map (·.id)
def qx (w : Wld) (u : Unt) : Prop :=
 ∃ x ∈ w.U, x.id = u.inn /\ (x.inn = 0 /\ x.owner = u.owner) /\ ((zq w.U u.inn).length : Int) <= yv x.kind /\ yv u.kind = 0 /\ u.pos = (0, 0) /\ u.goal = -1 /\ u.state = 0
def yu (w : Wld) : Prop := (k5 w /\ vh w) /\ (∀ u ∈ w.U, u.inn = 0 -> y8 w u.id u.kind u.pos) /\ ∀ u ∈ w.U, u.inn ≠ 0 -> qx w u
theorem Mb (a b : Int) : (a == b) = decide (a = b) := by rfl
theorem qt {g : Gnd} (h : zt g) : 1 <= g.W * g.H /\ g.W * g.H <= 16384 /\ (g.T.length : Int) = g.W * g.H := by
 obtain ⟨⟨h1, h2⟩, ⟨h3, h4⟩, h5, _⟩ := h
 have : 1 * 1 <= g.W * g.H := Int.mul_le_mul h1 h3 (by decide) (by omega)
 have : g.W * g.H <= 128 * 128 := Int.mul_le_mul h2 h4 (by omega) (by decide)
 omega
theorem M3 {a b : Vc} (h1 : -2305843009213693952 <= a.1 /\ a.1 <= 2305843009213693952) (h2 : -2305843009213693952 <= a.2 /\ a.2 <= 2305843009213693952) (h3 : -2305843009213693952 <= b.1 /\ b.1 <= 2305843009213693952) (h4 : -2305843009213693952 <= b.2 /\ b.2 <= 2305843009213693952) :
  x9 a b = (a.1 - b.1, a.2 - b.2) := by
 have n : ∀ x : Int, -4611686018427387904 <= x /\ x <= 4611686018427387904 -> nrm x = x := fun x hx => by unfold nrm; omega
 have c : ∀ x : Int, -4611686018427387904 <= x /\ x <= 4611686018427387904 -> xa x = x := fun x hx => by unfold xa; omega
 grind[x9,zw,yb]
theorem Me {x : Int} (h : -4611686018427387904 <= x /\ x <= 4611686018427387904) : asz x * asz x = x * x := by
 have n : nrm x = x := by unfold nrm; omega
 grind[asz]
theorem ut {a b : Vc} {r : Int} (h1 : -2305843009213693952 <= a.1 /\ a.1 <= 2305843009213693952) (h2 : -2305843009213693952 <= a.2 /\ a.2 <= 2305843009213693952) (h3 : -2305843009213693952 <= b.1 /\ b.1 <= 2305843009213693952) (h4 : -2305843009213693952 <= b.2 /\ b.2 <= 2305843009213693952) (hr : 0 < r) :
  near a b r = decide ((a.1 - b.1) * (a.1 - b.1) + (a.2 - b.2) * (a.2 - b.2) < r * r) := by
 unfold near sqr
 rw [M3 h1 h2 h3 h4, Me (by omega), Me (by omega)]
 grind
theorem vj {g : Gnd} (hg : zt g) {t : Nat} (ht : (t : Int) < g.W * g.H) : (0 <= (t : Int) % g.W /\ (t : Int) % g.W < g.W) /\ (0 <= (t : Int) / g.W /\ (t : Int) / g.W < g.H) := by
 obtain ⟨⟨h1, h2⟩, ⟨h3, h4⟩, _⟩ := hg
 have h5 := Int.emod_nonneg (t : Int) (show g.W ≠ 0 by omega)
 have h6 := Int.emod_lt_of_pos (t : Int) (show 0 < g.W by omega)
 have h7 : 0 <= (t : Int) / g.W := Int.ediv_nonneg (by omega) (by omega)
 have h8 : (t : Int) / g.W < g.H := Int.ediv_lt_of_lt_mul (by omega) (by grind)
 omega
theorem Cg {t : Nat} {w : Int} (hw : 1 <= w) : (t : Int).tdiv w = (t : Int) / w := Int.tdiv_eq_ediv_of_nonneg (by omega)
theorem Cf {t : Nat} {w : Int} (hw : 1 <= w) : (t : Int).tmod w = (t : Int) % w := Int.tmod_eq_emod_of_nonneg (by omega)
theorem Fq {g : Gnd} (hg : zt g) {t : Nat} (ht : (t : Int) < g.W * g.H) : (0 <= tx g t /\ tx g t <= 8323072) /\ (0 <= ty g t /\ ty g t <= 8323072) := by
 have := vj hg ht
 obtain ⟨⟨h1, h2⟩, ⟨h3, h4⟩, _⟩ := hg
 unfold tx ty
 omega
def jx (x lo : Int) : Int := min2 (max2 x lo) (lo + 65536)
theorem Cv (a b : Int) : min2 a b = min a b := by grind[min2]
theorem Cx (a b : Int) : max2 a b = max a b := by grind[max2]
theorem Lu (x lo : Int) : jx x lo = min (max x lo) (lo + 65536) := by unfold jx; rw [Cv, Cx]
theorem Lt (x lo : Int) : (x - jx x lo) * (x - jx x lo) = off x lo * off x lo := by
 rw [Lu]
 unfold off
 grind
theorem Dx {x lo : Int} (h : 0 <= lo /\ lo <= 8323072) : 0 <= jx x lo /\ jx x lo <= 8388608 := by rw [Lu]; omega
theorem Kd {x lo : Int} (h : 0 <= lo /\ lo <= 8323072) (hx : -1099511627776 <= x /\ x <= 1099511627776) : 0 <= off x lo /\ off x lo <= 1099519950848 := by grind[off]
theorem ux {g : Gnd} (hg : zt g) {t : Nat} (ht : (t : Int) < g.W * g.H) {p : Vc} (hp : yo p.1 p.2) {r : Int} (hr : 0 < r) :
  near p (jx p.1 (tx g t), jx p.2 (ty g t)) r = decide (qd g t p r) := by
 have hb := Fq hg ht
 have h1 := Dx (x := p.1) hb.1
 have h2 := Dx (x := p.2) hb.2
 obtain ⟨h3, h4⟩ := hp
 rw [ut (by omega) (by omega) (by omega) (by omega) hr]
 dsimp only
 rw [Lt, Lt]
 rfl
theorem Fz {a r : Int} (ha : 0 <= a) (hr : 0 < r) (h : a * a < r * r) : a < r := by
 apply Decidable.byContradiction
 intro hn
 have : r * r <= a * a := Int.mul_le_mul (by omega) (by omega) (by omega) ha
 omega
theorem u7 {dx dy r : Int} (h1 : 0 <= dx) (h2 : 0 <= dy) (hr : 0 < r) : (dx < r /\ dy < r /\ dx * dx + dy * dy < r * r) ↔ dx * dx + dy * dy < r * r := by grind[Fz,Int.mul_nonneg]
theorem F0 {a : Int} (h : 0 <= a /\ a <= 262144) : 0 <= a * a /\ a * a <= 68719476736 :=
 ⟨Int.mul_nonneg h.1 h.1, by have : a * a <= 262144 * 262144 := Int.mul_le_mul h.2 h.2 h.1 (by decide); omega⟩
def Store.delObj (st : Store) (b : Nat) : Store := { st with obj := fun i => bif Nat.beq i b then none else st.obj i }
theorem k9 {st : Store} {b b' : Nat} {x : AObj} (h : (st.delObj b).obj b' = some x) : b' ≠ b /\ st.obj b' = some x := by
  have h : (bif Nat.beq b' b then none else st.obj b') = some x := h
  grind[Nat.beq_refl]
/-- An object that is done with is a plain list. -/
theorem AWp.freeze {P : Program} {c : Cfg} {code : Code} {Q : Exit -> Fr -> Store -> Prop} {A : Fr} {st : Store} {d b n cap k : Nat} {rows : List (List AV)} {pad : List AV}
    (hA : A.t d = .av (.s (.slice (some ⟨b, 0, none⟩) n cap))) (ho : st.obj b = some (.cells (rows.flatten ++ pad))) (ht : st.tok b = none) (hn : rows.length = n) (hcap : n <= cap)
    (hk : ∀ row ∈ rows, row.length = k) (hall : ∀ row ∈ rows, ∀ x ∈ row, ∃ v, x = AV.s v /\ yk v = true)
    (h : AWp P c code Q (A.put d (.av (.lst k rows none))) (st.delObj b)) : AWp P c code Q A st := by
  refine ⟨fun Oth M a w ⟨β, sim⟩ => ?_⟩
  have hs : ∀ b' o, ((M b' o /\ b' ≠ b) \/ Oth b' o) -> (M b' o \/ Oth b' o) := fun _ _ h => h.imp (·.1) id
  have sim' : SimB c.N Oth β (A.put d (.av (.lst k rows none))) (st.delObj b) (fun b' o => M b' o /\ b' ≠ b) a w := by
    refine { tsz := sim.tsz, dfr := sim.dfr.sub fun _ _ h => h.1, tm := fun i => ?_, bx := fun j l hj => ⟨(sim.bx j l hj).1.mono hs, fun o => ⟨(sim.bx j l hj).2 o, ?_⟩⟩, inj := sim.inj, sep := fun j b' hj hb' => ?_, sto := ?_ }
    · by_cases hi : i = d
      · subst hi
        have e : (A.put i (.av (.lst k rows none))).t i = .av (.lst k rows none) := by
          show (bif Nat.beq i i then _ else A.t i) = _
          simp
        rw [e]
        have h1 := sim.tm i
        rw [hA] at h1
        have h1 : VRel w (fun b o => M b o \/ Oth b o) (.s (.slice (some ⟨b, 0, none⟩) n cap)) (a.tmps.getD i undef) := h1
        generalize a.tmps.getD i undef = v at h1
        cases h1
        obtain ⟨⟨cs, e0, fr, hb0, huf, hlen, hrel⟩, hM⟩ := sim.sto.obj b _ ho
        subst hn
        have at1 : ∀ (i : Nat) (row : List AV) (j : Nat) (x : AV), rows[i]? = some row -> row[j]? = some x -> ∃ v, x = .s v /\ yk v = true /\ cs[i * k + j]? = some v := by
          intro i row j x hi hj
          obtain ⟨v, rfl, hv⟩ := hall row (List.mem_of_getElem? hi) x (List.mem_of_getElem? hj)
          have h5 := vx hk hi hj
          have hlt := (List.getElem?_eq_some_iff.1 h5).1
          have h6 : (rows.flatten ++ pad)[i * k + j]? = some (.s v) := by grind
          have hlt2 : i * k + j < cs.size := by grind
          have h7 := hrel _ _ cs[i * k + j] h6 (by simp [hlt2])
          have : cs[i * k + j] = v := by generalize cs[i * k + j] = y at h7; cases h7; rfl
          grind
        refine VRel.lst rows none b 0 cap k (fun p => cs.getD p undef) hcap (fun i row hi => hk row (List.mem_of_getElem? hi)) (fun _ h => by cases h) (fun i row j x hi hj => ?_) (fun i row j x hi hj => ?_) (fun i row j x hi hj => ?_)
        · obtain ⟨v, rfl, hv, h5⟩ := at1 i row j x hi hj
          refine ⟨?_, ?_⟩
          · simp_all[World.cell?]
          · rintro (⟨_, h⟩ | h)
            · omega
            · exact sim.sto.dis _ _ h (hM _)
        · obtain ⟨v, rfl, hv, h5⟩ := at1 i row j x hi hj
          simp_all
        · obtain ⟨v, rfl, hv, h5⟩ := at1 i row j x hi hj
          rw [Array.getD_eq_getD_getElem?, h5]; exact .s _
      · have e : (A.put d (.av (.lst k rows none))).t i = A.t i := by
          show (bif Nat.beq i d then _ else A.t i) = _
          grind[yr]
        rw [e]
        have h1 := sim.tm i
        generalize A.t i = x at h1
        cases x with
        | any => trivial
        | und => exact h1
        | av x => exact VRel.mono hs h1
        | bx k off => exact h1
    · exact sim.sep j b (fun e => by rw [show A.bx j = some l from hj] at e; cases e) (.inl (by grind))
    · refine sim.sep j b' hj ?_
      rcases hb' with hb' | hb'
      · cases hx : (st.delObj b).obj b' with
        | none => grind
        | some y => grind[k9]
      · exact .inr hb'
    · exact { obj := fun b' y hy => ⟨(sim.sto.obj b' y (k9 hy).2).1.mono hs, fun o => ⟨(sim.sto.obj b' y (k9 hy).2).2 o, (k9 hy).1⟩⟩
              tok := fun b' top htk => by
                obtain ⟨c, e, fr, h1, h2, h3, h4⟩ := sim.sto.tok b' top htk
                exact ⟨c, e, fr, h1, h2, h3, fun o ho => ⟨h4 o ho, fun e => by subst e; rw [show st.tok b' = some top from htk] at ht; cases ht⟩⟩
              mlt := fun b' o hm => sim.sto.mlt b' o hm.1, olt := sim.sto.olt, dis := fun b' o ho hm => sim.sto.dis b' o ho hm.1 }
  refine Code.wpF_mono ?_ (h.out Oth _ a w ⟨β, sim'⟩)
  rintro e a' w' ⟨A', st', M', h1, h2, h3⟩
  exact ⟨A', st', M', h1, h2, { size := h3.size, keep := fun b' o hb hm => h3.keep b' o hb fun h => hm h.1, blk := fun b' hb hm => h3.blk b' hb fun o h => hm o h.1, shp := h3.shp, sub := fun b' o hm hb => (h3.sub b' o hm hb).1, tape := h3.tape, os := h3.os, output := h3.output }⟩
/-- A loop whose round is not yet walked. -/
theorem AWp.loopA {P : Program} {c : Cfg} {σ : Type} (H : LoopHead σ) {b : Code} {Q : Exit -> Fr -> Store -> Prop} {A : Fr} {st : Store} (h0 : H.at A st fun _ => True)
    (round : ∀ s st, H.inv s st -> AWp P c b (Iy H s Q) (xe (H.t s) (H.bx s)) st) : AWp P c (.loop b) Q A st := by
  obtain ⟨s0, _, hi0, ht0, hb0⟩ := h0
  refine ⟨fun Oth M a w sim => ?_⟩
  refine wpIn_loop_ghost (fun n a' w' => ∃ s st' M', H.μ s = n /\ H.inv s st' /\ Sim c.N Oth (xe (H.t s) (H.bx s)) st' M' a' w' /\ Chg M w M' w') (H.μ s0)
    ⟨s0, st, M, rfl, hi0, sim.fits ht0 hb0 (Store.Has.refl st), Chg.refl M w⟩ ?_
  rintro n a' w' ⟨s, st', M', rfl, hi, hsim, hchg⟩
  refine Code.wpF_mono ?_ ((round s st' hi).out Oth M' a' w' hsim)
  rintro e a'' w'' ⟨A'', st'', M'', h1, h2, h3⟩
  cases e with
  | normal =>
    obtain ⟨s', hlt, hi', ht', hb'⟩ := h1
    exact ⟨H.μ s', hlt, s', st'', M'', rfl, hi', h2.fits ht' hb' (Store.Has.refl st''), hchg.trans h3⟩
  | _ => exact ⟨A'', st'', M'', h1, h2, hchg.trans h3⟩
theorem G7 {st : Store} {b : Nat} {x : AObj} (h : st.obj b = none) : (st.setObj b x).delObj b = st := by
 unfold Store.setObj Store.delObj
 congr 1
 funext i
 by_cases hi : i = b
 ·subst hi; simp [h]
 ·simp [ya hi]
/-- The tiles of a building. -/
def xj (W : Int) (b : Bld) (y k : Nat) : List Int := (List.range k).map fun (x : Nat) => b.x + (x : Int) + W * (b.y + (y : Int))
def xo (W : Int) (b : Bld) (k : Nat) : List Int := (List.range k).flatMap fun y => xj W b y b.w.toNat
def qw (W : Int) (b : Bld) : List Int := xo W b b.h.toNat
theorem Nk (W : Int) (b : Bld) (y k : Nat) : xj W b y (k + 1) = xj W b y k ++ [b.x + (k : Int) + W * (b.y + (y : Int))] := by
 unfold xj; rw [List.range_succ]; simp
theorem Fu (W : Int) (b : Bld) (k : Nat) : xo W b (k + 1) = xo W b k ++ xj W b k b.w.toNat := by
 unfold xo; rw [List.range_succ]; simp
theorem H8 (W : Int) (b : Bld) (y k : Nat) : (xj W b y k).length = k := by unfold xj; simp
theorem Fv (W : Int) (b : Bld) (k : Nat) : (xo W b k).length = k * b.w.toNat := by
 induction k with
 | zero => simp [xo]
 | succ k ih => rw [Fu, List.length_append, ih, H8, Nat.succ_mul]
theorem H7 (W : Int) {b : Bld} (hb : zy b) : (qw W b).length <= 16 := by
 unfold qw
 rw [Fv]
 unfold zy at hb
 have : b.h.toNat * b.w.toNat <= 4 * 4 := Nat.mul_le_mul (by omega) (by omega)
 omega
theorem wd {g : Gnd} (hg : zt g) {x y : Int} (hx : 0 <= x /\ x < g.W) (hy : 0 <= y /\ y < g.H) :
  0 <= x + g.W * y /\ x + g.W * y < g.W * g.H /\ (x + g.W * y) % g.W = x /\ (x + g.W * y) / g.W = y := by
 obtain ⟨⟨h1, h2⟩, ⟨h3, h4⟩, _⟩ := hg
 have a1 : 0 <= g.W * y := Int.mul_nonneg (by omega) hy.1
 have a2 : g.W * y <= g.W * (g.H - 1) := Int.mul_le_mul_of_nonneg_left (by omega) (by omega)
 have a3 : g.W * (g.H - 1) = g.W * g.H - g.W := by rw [Int.mul_sub, Int.mul_one]
 refine ⟨by omega, by omega, ?_, ?_⟩
 ·rw [Int.add_mul_emod_self_left]; exact Int.emod_eq_of_lt hx.1 hx.2
 ·rw [Int.add_mul_ediv_left _ _ (by omega), Int.ediv_eq_zero_of_lt hx.1 hx.2]; omega
theorem kr {g : Gnd} (hg : zt g) {b : Bld} (hb : zy b) (ho : onP g b) (t : Int) : t ∈ qw g.W b ↔ ∃ n : Nat, t = (n : Int) /\ (n : Int) < g.W * g.H /\ qe g b n := by
 have hb' := hb
 have ho' := ho
 unfold zy at hb'
 unfold onP at ho'
 unfold qw xo xj
 rw [List.mem_flatMap]
 constructor
 ·rintro ⟨y, hy, hx⟩
  obtain ⟨x, hx2, rfl⟩ := List.mem_map.1 hx
  have hy := List.mem_range.1 hy
  have hx := List.mem_range.1 hx2
  obtain ⟨q1, q2, q3, q4⟩ := wd hg (x := b.x + x) (y := b.y + y) (by omega) (by omega)
  refine ⟨(b.x + (x : Int) + g.W * (b.y + (y : Int))).toNat, by omega, by omega, ?_⟩
  unfold qe
  rw [show (((b.x + (x : Int) + g.W * (b.y + (y : Int))).toNat : Nat) : Int) = b.x + (x : Int) + g.W * (b.y + (y : Int)) by omega, q3, q4]
  omega
 ·rintro ⟨n, rfl, hn, hh⟩
  unfold qe at hh
  refine ⟨((n : Int) / g.W - b.y).toNat, List.mem_range.2 (by omega), List.mem_map.2 ⟨((n : Int) % g.W - b.x).toNat, List.mem_range.2 (by omega), ?_⟩⟩
  have := Int.emod_add_mul_ediv (n : Int) g.W
  rw [show (((n : Int) % g.W - b.x).toNat : Int) = (n : Int) % g.W - b.x by omega, show (((n : Int) / g.W - b.y).toNat : Int) = (n : Int) / g.W - b.y by omega]
  rw [show b.x + ((n : Int) % g.W - b.x) = (n : Int) % g.W by omega, show b.y + ((n : Int) / g.W - b.y) = (n : Int) / g.W by omega]
  exact this
/-- Cells of yes and no. -/
def bl (n : Nat) (f : Nat -> Bool) : List AV := (List.range n).map fun t => bool (f t)
theorem xm (n : Nat) (f : Nat -> Bool) : (bl n f).length = n := by simp [bl]
theorem ve {n : Nat} {f : Nat -> Bool} {t : Nat} (h : t < n) : (bl n f)[t]? = some (bool (f t)) := by simp [bl, h]
theorem Hf (n : Nat) : List.replicate n (AV.s (.bool false)) = bl n fun _ => false := by
 unfold bl
 rw [List.map_const', List.length_range]
 rfl
theorem vz {n : Nat} {f : Nat -> Bool} {t : Nat} (h : t < n) (g : Nat -> Bool) (hg : ∀ s, s ≠ t -> g s = f s) : z6 (bl n f) t [bool (g t)] = bl n g := by
 unfold z6
 apply List.ext_getElem?
 intro s
 by_cases h1 : s < t
 ·rw [List.append_assoc, List.getElem?_append_left (by rw [List.length_take, xm]; omega), List.getElem?_take_of_lt h1, ve (by omega), ve (by omega), hg s (by omega)]
 ·by_cases h2 : s = t
  ·subst h2
   rw [List.append_assoc, List.getElem?_append_right (by rw [List.length_take, xm]; omega), List.length_take, xm, show s - min s n = 0 by omega, ve h]
   rfl
  ·rw [List.getElem?_append_right (by rw [List.length_append, List.length_take, xm]; simp; omega), List.length_append, List.length_take, xm, List.getElem?_drop]
   by_cases h3 : s < n
   ·have e : t + [bool (g t)].length + (s - (min t n + [bool (g t)].length)) = s := by simp; omega
    rw [e, ve h3, ve h3, hg s h2]
   ·rw [List.getElem?_eq_none (by rw [xm]; simp; omega), List.getElem?_eq_none (by rw [xm]; omega)]
/-- Which tiles the first buildings have, and of the next one the first tiles. -/
def yz (g : Gnd) (l : List Bld) (i : Nat) (ts : List Int) (k : Nat) (t : Nat) : Bool := yd g (l.take i) t || (ts.take k).contains (t : Int)
theorem Ln (g : Gnd) (l : List Bld) (i : Nat) (ts : List Int) (t : Nat) : yz g l i ts 0 t = yd g (l.take i) t := by simp [yz]
theorem Lo {g : Gnd} {l : List Bld} {i : Nat} {ts : List Int} {k n : Nat} (hk : k < ts.length) (hn : ts[k] = (n : Int)) :
  yz g l i ts (k + 1) n = true /\ ∀ s, s ≠ n -> yz g l i ts (k + 1) s = yz g l i ts k s := by
 unfold yz
 rw [List.take_succ_eq_append_getElem hk, hn]
 refine ⟨by simp, fun s hs => ?_⟩
 rw [List.contains_append]
 have : [((n : Nat) : Int)].contains (s : Int) = false := by simp; omega
 rw [this, Bool.or_false]
theorem Lp {g : Gnd} (hg : zt g) {l : List Bld} {i : Nat} (hi : i < l.length) (hb : zy l[i] /\ onP g l[i]) {t : Nat} (ht : t < g.T.length) :
  yz g l i (qw g.W l[i]) (qw g.W l[i]).length t = yd g (l.take (i + 1)) t := by
 have ha := qt hg
 unfold yz yd
 rw [List.take_length, List.take_succ_eq_append_getElem hi, List.any_append]
 congr 1
 rw [Bool.eq_iff_iff, List.contains_iff_mem, kr hg hb.1 hb.2]
 simp only [List.any_cons, List.any_nil, Bool.or_false, decide_eq_true_eq]
 constructor
 ·rintro ⟨n, h1, _, h2⟩
  have : n = t := by omega
  subst this; exact h2
 ·intro h
  exact ⟨t, rfl, by omega, h⟩
def x6 (b : Bool) : List AV := [bool b]
def blL (n : Nat) (f : Nat -> Bool) : List Bool := (List.range n).map f
theorem Ad (n : Nat) (f : Nat -> Bool) : (blL n f).length = n := by simp [blL]
theorem zd2 (n : Nat) (f : Nat -> Bool) : (rws x6 (blL n f)).flatten = bl n f := by
 unfold rws blL bl x6
 induction List.range n with
 | nil => rfl
 | cons a l ih => simp at ih ⊢; exact ih
theorem Ma {n : Nat} {f : Nat -> Bool} {t : Nat} (h : t < n) : (rws x6 (blL n f))[t]? = some (x6 (f t)) := by
 unfold rws blL
 simp [h]
theorem Nj (W : Int) (b : Bld) (y k : Nat) : (xj W b y k).Pairwise (· < ·) := by grind[xj,List.pairwise_lt_range]
theorem Nh {W : Int} {b : Bld} (hW : 1 <= W) (hx : 0 <= b.x /\ b.x + b.w <= W) (hw : 1 <= b.w) (k : Nat) : (xo W b k).Pairwise (· < ·) /\ ∀ t ∈ xo W b k, t < W * (b.y + (k : Int)) := by
 induction k with
 | zero => simp_all[xo]
 | succ k ih =>
  rw [Fu]
  have hrow : ∀ t ∈ xj W b k b.w.toNat, W * (b.y + (k : Int)) <= t /\ t < W * (b.y + (k : Int)) + W := by
   intro t ht
   obtain ⟨x, hx2, rfl⟩ := List.mem_map.1 ht
   grind
  have e : W * (b.y + ((k + 1 : Nat) : Int)) = W * (b.y + (k : Int)) + W := by grind
  grind[Nj]
theorem Ni {g : Gnd} (hg : zt g) {b : Bld} (hb : zy b /\ onP g b) : (qw g.W b).Pairwise (· < ·) := by
 unfold zy onP at hb
 exact (Nh hg.1.1 hb.2.1 (by omega) _).1
theorem um {l : List Int} (h : l.Pairwise (· < ·)) {k : Nat} (hk : k < l.length) : l[k] ∉ l.take k := by grind[List.getElem_of_mem,List.pairwise_iff_getElem]
theorem Kh {g : Gnd} (hg : zt g) {a b : Bld} (ha : zy a /\ onP g a) (hb : zy b /\ onP g b) : x4 a b ↔ ∃ t : Nat, (t : Int) < g.W * g.H /\ qe g a t /\ qe g b t := by
 unfold zy onP at ha hb
 unfold x4
 constructor
 ·intro h
  obtain ⟨q1, q2, q3, q4⟩ := wd hg (x := max a.x b.x) (y := max a.y b.y) (by omega) (by omega)
  refine ⟨(max a.x b.x + g.W * max a.y b.y).toNat, by omega, ?_⟩
  grind[qe]
 grind[qe]
theorem covB_iff {g : Gnd} {l : List Bld} {t : Nat} : yd g l t = true ↔ ∃ b ∈ l, qe g b t := by grind[yd]
/-- The buildings up to one may be. -/
def D2 (g : Gnd) (l : List Bld) (i : Nat) : Prop := ∀ j, (h : j < l.length) -> j < i -> (zy l[j] /\ onP g l[j] /\ jv g l[j]) /\ ∀ k, (hk : k < j) -> ¬ x4 l[j] (l[k]'(by omega))
theorem L5 {g : Gnd} {l : List Bld} (h : D2 g l l.length) : (∀ b ∈ l, zy b /\ onP g b /\ jv g b) /\ D6 l := by
 refine ⟨fun b hb => ?_, fun j hj k hk => (h j hj hj).2 k hk⟩
 obtain ⟨j, hj, rfl⟩ := List.getElem_of_mem hb
 exact (h j hj hj).1
theorem zct {g : Gnd} (hg : zt g) {l : List Bld} {i : Nat} (hi : i < l.length) (hb : zy l[i] /\ onP g l[i]) (hup : D2 g l i) :
  (∃ t ∈ qw g.W l[i], yd g (l.take i) t.toNat = true) ↔ ∃ k, ∃ hk : k < i, x4 l[i] (l[k]'(by omega)) := by
 constructor
 ·rintro ⟨t, ht, hc⟩
  obtain ⟨n, rfl, hn, hh⟩ := (kr hg hb.1 hb.2 t).1 ht
  rw [Int.toNat_natCast] at hc
  obtain ⟨b, hb2, hh2⟩ := covB_iff.1 hc
  obtain ⟨k, hk, rfl⟩ := List.getElem_of_mem hb2
  rw [List.length_take] at hk
  rw [List.getElem_take] at hh2
  have := (hup k (by omega) (by omega)).1
  grind[Kh]
 ·rintro ⟨k, hk, hm⟩
  have := (hup k (by omega) (by omega)).1
  obtain ⟨n, hn, h1, h2⟩ := (Kh hg hb ⟨this.1, this.2.1⟩).1 hm
  refine ⟨(n : Int), (kr hg hb.1 hb.2 _).2 ⟨n, rfl, hn, h1⟩, ?_⟩
  rw [Int.toNat_natCast]
  refine covB_iff.2 ⟨l[k], ?_, h2⟩
  have : (l.take i)[k]'(by grind) = l[k] := List.getElem_take
  grind
def Bj (g : Gnd) (b : Bld) (k t : Nat) : Prop := (b.x <= (t : Int) % g.W /\ (t : Int) % g.W < b.x + b.w) /\ (b.y <= (t : Int) / g.W /\ (t : Int) / g.W < b.y + (k : Int))
def ky (g : Gnd) (b : Bld) (k m t : Nat) : Prop := (t : Int) / g.W = b.y + (k : Int) /\ (b.x <= (t : Int) % g.W /\ (t : Int) % g.W < b.x + (m : Int))
instance (g : Gnd) (b : Bld) (k t : Nat) : Decidable (Bj g b k t) := inferInstanceAs (Decidable (_ /\ _))
instance (g : Gnd) (b : Bld) (k m t : Nat) : Decidable (ky g b k m t) := inferInstanceAs (Decidable (_ /\ _))
def xg (g : Gnd) (l : List Bld) (i : Nat) (b : Bld) (k m t : Nat) : Bool := yd g (l.take i) t || decide (Bj g b k t \/ ky g b k m t)
theorem zcu (g : Gnd) (l : List Bld) (i : Nat) (b : Bld) : xg g l i b 0 0 = yd g (l.take i) := by
 funext t
 simp_all[xg,decide_eq_false,Bj,ky]
theorem zcw (g : Gnd) (l : List Bld) (i : Nat) (b : Bld) (k : Nat) (hw : 0 <= b.w) : xg g l i b k b.w.toNat = xg g l i b (k + 1) 0 := by grind[xg,Bj,ky]
theorem zcx {g : Gnd} {l : List Bld} {i : Nat} (hi : i < l.length) (hh : 0 <= l[i].h) : xg g l i l[i] l[i].h.toNat 0 = yd g (l.take (i + 1)) := by
 funext t
 unfold xg yd
 rw [List.take_succ_eq_append_getElem hi, List.any_append]
 congr 1
 simp only [List.any_cons, List.any_nil, Bool.or_false]
 grind[Bj,ky,qe]
theorem zcv {g : Gnd} (hg : zt g) {l : List Bld} {i : Nat} {b : Bld} (hb : zy b /\ onP g b) {k m : Nat} (hk : (k : Int) < b.h) (hm : (m : Int) < b.w) {n : Nat} (hn : (n : Int) = b.x + (m : Int) + g.W * (b.y + (k : Int))) :
  xg g l i b k (m + 1) n = true /\ ∀ s, s ≠ n -> xg g l i b k (m + 1) s = xg g l i b k m s := by
 unfold zy onP at hb
 obtain ⟨q1, q2, q3, q4⟩ := wd hg (x := b.x + m) (y := b.y + k) (by omega) (by omega)
 unfold xg
 refine ⟨?_, fun s hs => ?_⟩
 ·have : ky g b k (m + 1) n := by grind[ky]
  grind
 ·have e := Int.emod_add_mul_ediv (s : Int) g.W
  grind[ky]
theorem Dc {g : Gnd} {t : Nat} {p : Vc} {r : Int} (hr : 0 < r) (h : qd g t p r) :
  (tx g t < p.1 + r /\ p.1 - r < tx g t + 65536) /\ (ty g t < p.2 + r /\ p.2 - r < ty g t + 65536) := by
 unfold qd at h
 have n : ∀ x lo : Int, 0 <= off x lo := fun x lo => by grind[off]
 have a := Fz (n p.1 (tx g t)) hr (by have := Int.mul_nonneg (n p.2 (ty g t)) (n p.2 (ty g t)); omega)
 have b := Fz (n p.2 (ty g t)) hr (by have := Int.mul_nonneg (n p.1 (tx g t)) (n p.1 (tx g t)); omega)
 grind[off]
section
variable {P : Program} {c : Cfg}
theorem Df {ops : Array Oper} {o : Oper} {A : Fr} {go skip : Fr -> Prop} (hg : o.guard = none) (h : go A) : j9 ops o A go skip := by
 unfold j9; grind
theorem Cd {o : Oper} {t : TypeId} {a x : Operand} {K : Fr -> Store -> Prop} {A : Fr} {st : Store} {i : TI} {v : AV} (ho : o.op = .store t a x) (hd : o.dst = none) (hi : c.I t = some i) (hx : A.ev x = .av v) (h : j1 i A st (A.ev a) v K) : xx P c o K A st := by
 unfold xx
 rw [ho]
 show jk P c o K A st
 simp_all[jk,za]
end
theorem Kf {A : Int} {m : Nat} (h : (m : Int) < A) : A.toNat - (m + 1) < A.toNat - m := by omega
theorem He (a : Int) (m : Nat) : a + ((m + 1 : Nat) : Int) = a + (m : Int) + 1 := by omega
theorem C8 {A x : Int} {m : Nat} (h : x + (m : Int) < A) : ((m + 1 : Nat) : Int) <= A - x := by omega
/-- Of rows below 'y', and of row 'y' up to 'x', none that is closed meets the disc. -/
def Ab (g : Gnd) (l : List Bld) (c : Int) (p : Vc) (r y : Int) : Prop := ∀ t, t < g.T.length -> (t : Int) / g.W < y -> yj g l c t = false -> ¬ qd g t p r
def Bq (g : Gnd) (l : List Bld) (c : Int) (p : Vc) (r y x : Int) : Prop := ∀ t, t < g.T.length -> (t : Int) / g.W = y -> (t : Int) % g.W < x -> yj g l c t = false -> ¬ qd g t p r
theorem zdc {g : Gnd} {l : List Bld} {c : Int} {p : Vc} {r : Int} (hr : 0 < r) (hp : 0 <= p.2 - r) : Ab g l c p r ((p.2 - r) / 65536) := by
 intro t _ hy _ hh
 have := (Dc hr hh).2
 grind[ty]
theorem zdf {g : Gnd} {l : List Bld} {c : Int} {p : Vc} {r y : Int} (hr : 0 < r) (hp : 0 <= p.1 - r) : Bq g l c p r y ((p.1 - r) / 65536) := by
 intro t _ _ hx _ hh
 have := (Dc hr hh).1
 grind[tx]
theorem zdg {g : Gnd} (hg : zt g) {l : List Bld} {c : Int} {p : Vc} {r y x : Int} (hr : 0 < r) (hp : 0 <= p.1 + r) (hx : ¬ (x <= (p.1 + r) / 65536) \/ ¬ (x < g.W)) (hu : Ab g l c p r y) (h : Bq g l c p r y x) : Ab g l c p r (y + 1) := by
 intro t ht hy ho hh
 by_cases e : (t : Int) / g.W = y
 ·by_cases e2 : (t : Int) % g.W < x
  ·exact h t ht e e2 ho hh
  ·have h1 := (Dc hr hh).1
   have h2 := (vj hg (t := t) (by have := (qt hg).2.2; omega)).1
   grind[tx]
 ·exact hu t ht (by omega) ho hh
theorem zdd {g : Gnd} (hg : zt g) {l : List Bld} {c : Int} {p : Vc} {r y : Int} (hr : 0 < r) (hp : 0 <= p.2 + r) (hy : ¬ (y <= (p.2 + r) / 65536) \/ ¬ (y < g.H)) (hu : Ab g l c p r y) : ∀ t, t < g.T.length -> yj g l c t = false -> ¬ qd g t p r := by
 intro t ht ho hh
 by_cases e : (t : Int) / g.W < y
 ·exact hu t ht e ho hh
 ·have h1 := (Dc hr hh).2
  have h2 := (vj hg (t := t) (by have := (qt hg).2.2; omega)).2
  grind[ty]
theorem zde {g : Gnd} (hg : zt g) {l : List Bld} {c : Int} {p : Vc} {r y x : Int} (hx : 0 <= x /\ x < g.W) (hy : 0 <= y /\ y < g.H) (h : Bq g l c p r y x) (hn : yj g l c (x + g.W * y).toNat = false -> ¬ qd g (x + g.W * y).toNat p r) : Bq g l c p r y (x + 1) := by
 intro t ht e1 e2 ho
 by_cases e : (t : Int) % g.W < x
 ·exact h t ht e1 e ho
 ·have e3 : (t : Int) % g.W = x := by omega
  have q := Int.emod_add_mul_ediv (t : Int) g.W
  grind
theorem za3 {F N S : Store} (hd : zv F N) : ((F.un N).un S).Has (F.un S) := by
 refine ⟨fun b y h => ?_, fun b x h => ?_⟩
 ·rcases H3 h with h1 | ⟨h1, h2⟩
  ·exact zf h1
  ·have h3 : (F.un N).obj b = some y := y5 hd h2
   show (match S.obj b with | some y => some y | none => (F.un N).obj b) = some y
   rw [h1]; exact h3
 ·rcases Fl h with h1 | ⟨h1, h2⟩
  ·exact vi h1
  ·have h3 : (F.un N).tok b = some x := H4 hd h2
   show (match S.tok b with | some y => some y | none => (F.un N).tok b) = some x
   rw [h1]; exact h3
theorem Cn {l : List Unt} (hr : y6 l) {a b : Nat} (hab : a < b) (hb : b < l.length) : (l[a]'(by omega)).id < l[b].id := by
 induction b with
 | zero => omega
 | succ b ih =>
  have h3 := hr (b + 1) hb (by omega)
  simp only [Nat.add_sub_cancel] at h3
  by_cases e : a = b
  ·subst e; exact h3
  ·have := ih (by omega) (by omega)
   omega
theorem wj {l : List Unt} (hr : y6 l) {u v : Unt} (hu : u ∈ l) (hv : v ∈ l) (h : u.id = v.id) : u = v := by
 obtain ⟨a, ha, rfl⟩ := List.getElem_of_mem hu
 obtain ⟨b, hb, rfl⟩ := List.getElem_of_mem hv
 rcases Nat.lt_trichotomy a b with q | q | q
 ·have := Cn hr q hb; omega
 ·subst q; rfl
 ·have := Cn hr q ha; omega
def Ct (w : Wld) (L : List Ent) : Prop := ∀ e, e ∈ L ↔ ∃ u ∈ w.U, u.inn = 0 /\ e = (u.id, u.pos)
theorem uh {w : Wld} {L : List Ent} (h : Ct w L) (hn : ∀ u ∈ w.U, u.pos.ok) : ∀ e ∈ L, e.2.ok := fun e he => by
 obtain ⟨u, hu, _, rfl⟩ := (h e).1 he
 exact hn u hu
/-- The units that are near. -/
def Gg (w : Wld) (p : Vc) (r : Int) (us : List Unt) : Prop := ∀ u, u ∈ us ↔ (u ∈ w.U /\ u.inn = 0) /\ near p u.pos r = true
theorem uy {w : Wld} {L : List Ent} (hr : y6 w.U) (hL : Ct w L) {p : Vc} {r : Int} {ns : List Int} (hn : Bz L p r ns) {us : List Unt} (h1 : us.map (·.id) = ns) (h2 : ∀ u ∈ us, u ∈ w.U /\ u.inn = 0) : Gg w p r us := by
 intro u
 constructor
 ·intro hu
  refine ⟨h2 u hu, ?_⟩
  have : u.id ∈ ns := by rw [<- h1]; exact List.mem_map.2 ⟨u, hu, rfl⟩
  obtain ⟨e, he, h3, h4⟩ := (hn.2 _).1 this
  obtain ⟨v, hv, _, rfl⟩ := (hL e).1 he
  rw [wj hr (h2 u hu).1 hv h3.symm]
  exact h4
 ·rintro ⟨⟨h3, h4⟩, h5⟩
  have : u.id ∈ ns := (hn.2 _).2 ⟨(u.id, u.pos), (hL _).2 ⟨u, h3, h4, rfl⟩, rfl, h5⟩
  rw [<- h1] at this
  obtain ⟨v, hv, h6⟩ := List.mem_map.1 this
  rw [wj hr h3 (h2 v hv).1 h6.symm]
  exact hv
theorem Bi (k : Int) : 0 < yc k /\ yc k <= 81920 := by unfold yc; split <;> (try split) <;> omega
theorem Kr (k : Int) : xq k = 0 \/ xq k = 1 \/ xq k = 2 := by unfold xq; split <;> (try split) <;> (try split) <;> omega
theorem uw {a b : Vc} {r r' : Int} (h : r <= r') (hn : near a b r = true) : near a b r' = true := by
 unfold near at *
 rw [decide_eq_true_iff] at *
 have : r * r <= r' * r' := Int.mul_le_mul h h (by omega) (by omega)
 omega
theorem zdb {w : Wld} {id k : Int} {q : Vc} {us : List Unt} (hf : kg w.G w.B (xq k) q (yc k)) (hus : Gg w q (yc k + 81920) us) :
  y8 w id k q ↔ ∀ u ∈ us, u.id ≠ id -> xc q (yc k) u.pos (yc u.kind) = true := by
 constructor
 ·intro h u hu hne
  have := (hus u).1 hu
  exact h.2 u this.1.1 this.1.2 hne
 ·intro h
  refine ⟨hf, fun u hu h0 hne => ?_⟩
  unfold xc
  cases hc : near q u.pos (yc k + yc u.kind) with
  | false => rfl
  | true =>
   have h1 := uw (r' := yc k + 81920) (by have := Bi u.kind; omega) hc
   have := h u ((hus u).2 ⟨⟨hu, h0⟩, h1⟩) hne
   unfold xc at this
   rw [hc] at this
   exact this
end Go.V
namespace Go.V
/-- A map by whole numbers. -/
def yw {α : Type} (f : α -> AV) (e : Int × α) : AV × AV := (int e.1, f e.2)
def qz {α : Type} (cs : List (Int × α)) (k : Int) : Option α := (cs.find? fun e => k == e.1).map (·.2)
def qc {α : Type} : List (Int × α) -> Int -> α -> List (Int × α)
 | [], k, v => [(k, v)]
 | e :: l, k, v => if k == e.1 then (k, v) :: l else e :: qc l k v
theorem zb4 {α : Type} (f : α -> AV) (cs : List (Int × α)) (k : Int) : (cs.map (yw f)).find? (qA k) = (cs.find? fun e => k == e.1).map (yw f) := by
 rw [List.find?_map]; rfl
theorem Gk {α : Type} (f : α -> AV) (cs : List (Int × α)) (k : Int) (z : AV) : j8 false z ((cs.map (yw f)).find? (qA k)) = ((qz cs k).map f).getD z := by
 rw [zb4]
 unfold qz
 cases cs.find? fun e => k == e.1 with
 | none => rfl
 | some e => rfl
theorem I8 {α : Type} (f : α -> AV) (k : Int) (v : α) : ∀ cs : List (Int × α),
  (match (cs.map (yw f)).findIdx? (qA k) with | some i => (cs.map (yw f)).set i (int k, f v) | none => cs.map (yw f) ++ [(int k, f v)]) = (qc cs k v).map (yw f)
 | [] => rfl
 | e :: l => by
  have ih := I8 f k v l
  rw [List.map_cons, List.findIdx?_cons]
  unfold qc
  by_cases h : k == e.1
  ·have h2 : qA k (yw f e) = true := h
   rw [h2]
   simp only [h, if_true, List.set_cons_zero, List.map_cons]
   rfl
  ·have h : (k == e.1) = false := by simpa using h
   have h2 : qA k (yw f e) = false := h
   rw [h2]
   simp only [h, if_false, List.map_cons]
   cases hx : (l.map (yw f)).findIdx? (qA k) with
   | none => rw [hx] at ih; simp at ih ⊢; exact ih
   | some i => rw [hx] at ih; simp at ih ⊢; exact ih
theorem Kj {α : Type} (f : α -> AV) (cs : List (Int × α)) (bs : List Nat) (clk : Nat) (k : Int) (v : α) : ∃ bs' clk', qs (cs.map (yw f)) bs clk (qA k) (int k) (f v) = .map ((qc cs k v).map (yw f)) bs' clk' := by
 have h := I8 f k v cs
 unfold qs
 cases hx : (cs.map (yw f)).findIdx? (qA k) with
 | none => rw [hx] at h; exact ⟨_, _, by rw [<- h]⟩
 | some i => rw [hx] at h; exact ⟨_, _, by rw [<- h]⟩
theorem Dg {α : Type} (k : Int) (v : α) (j : Int) : ∀ cs : List (Int × α), qz (qc cs k v) j = if j = k then some v else qz cs j
 | [] => by
  unfold qc qz
  by_cases h : j = k <;> simp [h]
 | e :: l => by
  have ih := Dg k v j l
  unfold qz at ih ⊢
  by_cases h : k = e.1
  ·have h1 : (k == e.1) = true := by simpa using h
   rw [show qc (e :: l) k v = (k, v) :: l by unfold qc; simp [h1]]
   by_cases h2 : j = k
   ·simp [h2]
   ·have e1 : (j == k) = false := by simpa using h2
    have e2 : (j == e.1) = false := by rw [<- h]; exact e1
    rw [List.find?_cons, List.find?_cons, if_neg h2]
    simp only [e1, e2]
  ·have h1 : (k == e.1) = false := by simpa using h
   rw [show qc (e :: l) k v = e :: qc l k v by rw [qc]; simp [h1]]
   rw [List.find?_cons, List.find?_cons]
   by_cases h2 : j = e.1
   ·have e1 : (j == e.1) = true := by simpa using h2
    simp only [e1]
    rw [if_neg (by omega)]
   ·have e1 : (j == e.1) = false := by simpa using h2
    simp only [e1]
    exact ih
end Go.V
namespace Go.V
theorem Bk {l : List Unt} {i : Nat} (hi : i < l.length) (id : Int) : ((zq (l.take (i + 1)) id).length : Int) = ((zq (l.take i) id).length : Int) + (if l[i].inn = id then 1 else 0) := by
 unfold zq
 rw [List.take_succ_eq_append_getElem hi, List.filter_append, List.map_append, List.length_append]
 by_cases h : l[i].inn = id
 ·simp [h]
 ·simp [h]
theorem Da {l : List Unt} (i : Nat) (id : Int) : (zq (l.take i) id).length <= (zq l id).length := by
 have h : (zq l id).length = (zq (l.take i) id).length + (zq (l.drop i) id).length := by
  unfold zq
  rw [<- List.length_append, <- List.map_append, <- List.filter_append, List.take_append_drop]
 omega
/-- Who rides, so far. -/
def F6 (w : Wld) (i : Nat) : Prop :=
 (∀ j, (h : j < w.U.length) -> j < i -> w.U[j].inn ≠ 0 -> ∃ x ∈ w.U, x.id = w.U[j].inn /\ (x.inn = 0 /\ x.owner = w.U[j].owner) /\ yv w.U[j].kind = 0 /\ w.U[j].pos = (0, 0) /\ w.U[j].goal = -1 /\ w.U[j].state = 0) ∧
 ∀ x ∈ w.U, x.id ≠ 0 -> ((zq (w.U.take i) x.id).length : Int) <= yv x.kind
theorem sq {w : Wld} (h : F6 w w.U.length) : ∀ u ∈ w.U, u.inn ≠ 0 -> qx w u := by
 intro u hu hne
 obtain ⟨j, hj, rfl⟩ := List.getElem_of_mem hu
 obtain ⟨x, hx, h1, h2, h3, h4, h5, h6⟩ := h.1 j hj hj hne
 have := h.2 x hx (by rw [h1]; exact hne)
 rw [List.take_length, h1] at this
 exact ⟨x, hx, h1, h2, this, h3, h4, h5, h6⟩
theorem Gr (k : Int) : 0 <= yv k /\ yv k <= 4 := by unfold yv; split <;> (try split) <;> (try split) <;> omega
end Go.V
namespace Go.V
/-- The units up to one may be by themselves. -/
def kn (w : Wld) (i : Nat) : Prop := ∀ j, (h : j < w.U.length) -> j < i -> (jl w w.U[j] /\ ∀ b ∈ w.B, b.id ≠ w.U[j].id) /\ (0 < j -> (w.U[j - 1]'(by omega)).id < w.U[j].id)
theorem H0 {w : Wld} (h : kn w w.U.length) : vh w := by
 refine ⟨fun j hj h0 => (h j hj hj).2 h0, fun u hu => ?_⟩
 obtain ⟨j, hj, rfl⟩ := List.getElem_of_mem hu
 exact (h j hj hj).1
theorem Hz {w : Wld} (h : vh w) (i : Nat) : kn w i := fun j hj _ => ⟨h.2 _ (List.getElem_mem hj), h.1 j hj⟩
end Go.V
