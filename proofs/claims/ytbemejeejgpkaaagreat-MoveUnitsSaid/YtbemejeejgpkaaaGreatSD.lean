/- The ground on which laws of thronglaw24 are proved: contracts of functions and plain lemmas; no condition beyond the row's own. -/
import Derived.Test.YtbemejeejgpkaaaGreatVF
import Derived.Test.YtbemejeejgpkaaaGreatSC
set_option linter.unusedSimpArgs false
set_option linter.unusedVariables false
namespace Go.Proofs
open Go Go.V
set_option maxRecDepth 4000
theorem zm1 (n : Int) (hn : yi n) (st : Store) (R : AV -> Store -> Prop) (h : R (int (nrm n / 131072)) st) : ACalls Tryz.prog 202 [int n] st R := by
 refine ACalls.of_body (c := cfg 15) zc Tryz.func202 (by rfl) (by rfl) (by rfl) (by rfl) ?_
 refine k6 n _ _ ?_
 have hb := v7 hn
 generalize nrm n = x at *
 refine bcd (fun c1 => ?_) (fun c1 => ?_)
 ·refine ⟨⟨by omega, by omega⟩, ?_⟩
  refine ⟨⟨by omega, by omega⟩, ?_⟩
  refine ⟨by decide, ?_⟩
  have e : (0 - x - 1).tdiv 131072 = (0 - x - 1) / 131072 := Int.tdiv_eq_ediv_of_nonneg (by omega)
  rw [e]
  refine ⟨⟨by omega, by omega⟩, ?_⟩
  refine ⟨⟨by omega, by omega⟩, ?_⟩
  refine ⟨⟨by omega, by omega⟩, ?_⟩
  rw [show x / 131072 = 0 - ((0 - x - 1) / 131072 + 1) by omega] at h
  exact ret h
 ·refine ⟨by decide, ?_⟩
  have e : x.tdiv 131072 = x / 131072 := Int.tdiv_eq_ediv_of_nonneg (by omega)
  rw [e]
  exact ⟨⟨by omega, by omega⟩, ret h⟩
theorem v6 (p : Vc) (hp : p.ok) (st : Store) (R : AV -> Store -> Prop) (h : R (.agg [int (zp p).1, int (zp p).2]) st) : ACalls Tryz.prog 176 [.agg (vecC p)] st R := by
 refine ACalls.of_body (c := cfg 10) zc Tryz.func176 (by rfl) (by rfl) (by rfl) (by rfl) ?_
 refine ADraw.of_sched zc (by rfl) (by rfl) ygx (by rfl) ?_
 refine ⟨zm1 p.1 hp.1 _ _ ⟨(by repeat (first | exact Tv | refine ⟨rfl, ?_⟩ | refine ⟨optR (optR (optR (za _ (zb _ _ _) rfl))), ?_⟩)), ?_⟩, Tv⟩
 refine ⟨zm1 p.2 hp.2 _ _ ⟨(by repeat (first | exact Tv | refine ⟨rfl, ?_⟩ | refine ⟨optR (optR (optR (za _ (zb _ _ _) rfl))), ?_⟩)), ?_⟩, Tv⟩
 refine ⟨⟨(by repeat (first | exact Tv | refine ⟨rfl, ?_⟩ | refine ⟨optR (optR (optR (za _ (zb _ _ _) rfl))), ?_⟩)), ?_⟩, Tv⟩
 exact ret h
theorem zdj (R : AV -> Store -> Prop) (h : ∀ a p, CellsOf a p [] -> R (.s (.pointer (some ⟨p, 0, none⟩))) a) : ACalls Tryz.prog 132 [] Store.empty R := by
 refine ACalls.of_body (c := cfg 5 [4] []) zc Tryz.func132 (by rfl) (by rfl) (by rfl) (by rfl) ?_
 refine vw rfl (fun ma hma => ?_)
 refine vw rfl (fun mi hmi => ?_)
 intro p hp
 have h1 : mi ≠ ma := fun e => by have := hmi.1; rw [e, zb] at this; cases this
 have h2 : p ≠ mi := fun e => by have := hp.1; rw [e, zb] at this; cases this
 have h3 : p ≠ ma := fun e => by have := hp.1; rw [e, zf (Ne.symm h1), zb] at this; cases this
 refine ret (h _ _ ⟨ma, mi, [], 0, [], [], 0, ⟨zb _ _ _, ?_, ?_, Ne.symm h1, (fun g hg => (by cases hg)), List.nodup_nil⟩, ⟨List.nodup_nil, List.nodup_nil, (fun g hg => (by cases hg)), (fun g hg => (by cases hg)), (fun g hg => (by cases hg))⟩⟩)
 ·rw [zf (Ne.symm h3), zf (Ne.symm h1)]; exact zb _ _ _
 ·rw [zf (Ne.symm h2)]; exact zb _ _ _
theorem zew {st : Store} {v : AV} {ns : List Int} (hv : Ints st v ns) (x : Int) (hlen : ns.length < 4611686018427387904) (hs : ns.Pairwise (· <= ·)) (R : AV -> Store -> Prop)
  (h : R (.tup [int (ns.countP (· < x) : Nat), bool (ns.contains x)]) st) : ACalls Tryz.prog 177 [v, int x] st R :=
 zrn Tryz.laysNm225 Tryz.func177 rfl rfl hv x hlen hs h
theorem zo9 {st : Store} {b cap i j : Nat} {ns : List Int} {L : List AV} (ho : st.obj b = some (.cells (ns.map aI ++ L)))
  (hc1 : ns.length <= cap) (hc2 : cap <= 9223372036854775807) (hij : i <= j) (hj : j <= ns.length) (R : AV -> Store -> Prop)
  (h : R (.s (.slice (some ⟨b, 0, none⟩) (ns.take i ++ ns.drop j).length cap)) (st.setObj b (.cells ((ns.take i ++ ns.drop j).map aI ++ (List.replicate (j - i) (aI 0) ++ L))))) :
  ACalls Tryz.prog 192 [.s (.slice (some ⟨b, 0, none⟩) ns.length cap), int i, int j] st R :=
 ztc Tryz.laysNm223 Tryz.func192 rfl rfl ho hc1 hc2 hij hj h
theorem zgq {st : Store} {v : AV} {ns : List Int} (hv : Ints st v ns) {vb : Nat} (x : Int) (i : Nat) (hi : i <= ns.length)
  (hvb : st.obj vb = some (.cells [aI x])) (hne : ∀ b cap, v = .s (.slice (some ⟨b, 0, none⟩) ns.length cap) -> b ≠ vb) (hlen : (ns.length + 1) * 8 <= 140737488355328) (R : AV -> Store -> Prop)
  (h : ∀ b cap L, (Fresh st b \/ ∃ c0, v = .s (.slice (some ⟨b, 0, none⟩) ns.length c0)) -> (ns.take i ++ x :: ns.drop i).length <= cap -> cap <= (ns.take i ++ x :: ns.drop i).length + L.length -> cap <= 9223372036854775807 ->
   R (.s (.slice (some ⟨b, 0, none⟩) (ns.take i ++ x :: ns.drop i).length cap)) (st.setObj b (.cells ((ns.take i ++ x :: ns.drop i).map aI ++ L)))) :
  ACalls Tryz.prog 178 [v, int i, .s (.slice (some ⟨vb, 0, none⟩) 1 1)] st R :=
 zsm Tryz.laysNm221 Tryz.func178 rfl rfl hv x i hi hvb hne hlen h
theorem zpa {l : List Ent} {G : List Grp} (h : Inv l G) : ∀ g ∈ G, g.ns.length <= l.length := by
 intro g hg
 have h1 := (h.s g hg).1
 have h2 : g.ns.Nodup := h1.imp fun h e => by omega
 have h3 : g.ns ⊆ l.map (·.1) := fun id hid => by
  obtain ⟨e, he, h4, _⟩ := (h.m1 g hg id).1 hid
  exact List.mem_map.2 ⟨e, he, h4⟩
 have := List.Nodup.length_le_of_subset h2 h3
 simpa using this
theorem zuj {ns : List Int} (h : ns.Pairwise (· < ·)) : ns.Pairwise (· <= ·) := h.imp fun h => by omega
set_option maxHeartbeats 1000000 in
theorem zaq {a : Store} {p : Nat} {l : List Ent} (hc : CellsOf a p l) (hl : l.length <= 1000000000) (hok : ∀ e ∈ l, e.2.ok) (id : Int) (R : AV -> Store -> Prop)
  (h : ∀ a', CellsOf a' p (yh l id) -> R (bool (l.find? (atId id)).isSome) a') : ACalls Tryz.prog 164 [.s (.pointer (some ⟨p, 0, none⟩)), int id] a R := by
 obtain ⟨ma, mi, bs1, c1, G, bs2, c2, ha, hi⟩ := hc
 refine ACalls.of_body (c := cfg 60) zc Tryz.func164 (by rfl) (by rfl) (by rfl) (by rfl) ?_
 refine za _ ha.hp ?_
 refine y4 rfl (it := ti209) (ie := ti49) (ik := ti3) rfl rfl rfl rfl ha.ha rfl (qA id) (fun e he => ?_) ?_
 ·obtain ⟨e, _, rfl⟩ := List.mem_map.1 he
  rfl
 rw [ypw]
 cases hf : l.find? (atId id) with
 | none =>
  rw [hf] at h
  refine ret (h a ?_)
  rw [zo6 hf]
  exact ⟨ma, mi, bs1, c1, G, bs2, c2, ha, hi⟩
 | some e =>
  rw [hf] at h
  obtain ⟨hem, heq⟩ := zdd hf
  have hid : e.1 = id := (by simpa [atId] using heq : id = e.1).symm
  refine v6 e.2 (hok e hem) _ _ ?_
  obtain ⟨g, hg, hk⟩ := hi.m2 e hem
  have hfg : ∃ g', G.find? (zhc (zp e.2)) = some g' := by
   cases hx : G.find? (zhc (zp e.2)) with
   | some g' => exact ⟨g', rfl⟩
   | none => exact absurd (atKey_iff.2 hk) (by simpa using List.find?_eq_none.1 hx g hg)
  obtain ⟨g', hfg⟩ := hfg
  have hg' := zdd hfg
  have : g' = g := ypq hi.n2 hg hg'.1 (by rw [hk]; exact atKey_iff.1 hg'.2)
  subst this
  obtain ⟨j, hj1, hj2⟩ := zkd hfg
  obtain ⟨k1, k2, k3⟩ := ha.hg g' hg
  obtain ⟨s1, s2⟩ := hi.s g' hg
  have hin : id ∈ g'.ns := (hi.m1 g' hg id).2 ⟨e, hem, hid, hk.symm⟩
  obtain ⟨d1, d2, d3⟩ := ztd s1 hin
  have hlen := zpa hi g' hg
  refine ADraw.of_sched zc (by rfl) (by rfl) ygz (by rfl) ?_
  refine za (o := a.obj p) _ ha.hp ?_
  refine ⟨y4 rfl (it := ti210) (ie := ti29) (ik := ti214) rfl rfl rfl rfl ha.hi rfl (qG (zp e.2).1 (zp e.2).2) (fun e he => ?_) ⟨(by repeat (first | exact Tv | refine ⟨rfl, ?_⟩ | refine ⟨optR (optR (optR (za _ (zb _ _ _) rfl))), ?_⟩)), ?_⟩, Tv⟩
  ·obtain ⟨e, _, rfl⟩ := List.mem_map.1 he
   rfl
  rw [zxh, hfg]
  refine ⟨⟨(by repeat (first | exact Tv | refine ⟨rfl, ?_⟩ | refine ⟨optR (optR (optR (za _ (zb _ _ _) rfl))), ?_⟩)), ?_⟩, Tv⟩
  refine zew (.inr ⟨g'.b, g'.cap, g'.L, rfl, k1, k2⟩) id (by omega) (zuj s1) _ ?_
  refine ⟨⟨by omega, by omega⟩, ?_⟩
  refine zo9 k1 k2.1 k2.2.2 (Nat.le_add_right _ 1) d1 _ ?_
  generalize hns : g'.ns.take (g'.ns.countP fun x => decide (x < id)) ++ g'.ns.drop (g'.ns.countP (fun x => decide (x < id)) + 1) = ns' at *
  obtain ⟨n1, n2, n3⟩ := ha.g_ne hg
  have mid := ha.mid (.cells (ns'.map aI ++ (List.replicate (g'.ns.countP (fun x => decide (x < id)) + 1 - g'.ns.countP (fun x => decide (x < id))) (aI 0) ++ g'.L))) n3 n1 n2
  rw [show g'.ns.countP (fun x => decide (x < id)) + 1 - g'.ns.countP (fun x => decide (x < id)) = 1 by omega] at mid ⊢
  have hnl : ns'.length + 1 = g'.ns.length := by rw [<- hns]; simp; omega
  obtain ⟨v1, v2⟩ := yn4 hi hem hj2 hk d2 (by rw [hid]; exact d3)
  obtain ⟨i, hi1, hi2⟩ := zkd hf
  have her : (l.map entA).eraseIdx i = (yh l id).map entA := by rw [kk, zkg hi.n1 hi2, hid]
  refine bceq (fun hz => ?_) (fun hz => ?_)
  ·have hn0 : ns' = [] := List.eq_nil_of_length_eq_zero (by omega)
   refine ADraw.of_sched zc (by rfl) (by rfl) ygy (by rfl) ?_
   refine za (o := (a.setObj g'.b _).obj p) _ mid.hp ?_
   refine ⟨zcl rfl rfl rfl rfl (it := ti210) (ik := ti214) rfl rfl rfl mid.hi rfl (qG (zp e.2).1 (zp e.2).2) (fun e he => ?_) ⟨(by repeat (first | exact Tv | refine ⟨rfl, ?_⟩ | refine ⟨optR (optR (optR (za _ (zb _ _ _) rfl))), ?_⟩)), ?_⟩, Tv⟩
   ·obtain ⟨e, _, rfl⟩ := List.mem_map.1 he
    rfl
   have m1 := mid.setI (G' := G.eraseIdx j) (bs2.eraseIdx j) c2 (fun g1 h1 => .inl ?_) (mid.nd.sublist ((List.eraseIdx_sublist ..).map _))
   rotate_left
   ·obtain ⟨q1, q2⟩ := (kg (f := Grp.key) hi.n2 hj2).1 h1
    refine ⟨q1, fun e => q2 ?_⟩
    obtain ⟨i1, hi1⟩ := List.mem_iff_getElem?.1 q1
    have := qn (f := fun g : Grp => g.b) ha.nd hi1 hj2 e
    subst this
    rw [hj2] at hi1
    cases hi1; rfl
   have e1 : zb7 (G.map entG) bs2 c2 (qG (zp e.2).1 (zp e.2).2) = .map ((G.eraseIdx j).map entG) (bs2.eraseIdx j) c2 := by
    unfold zb7
    rw [zfe, hj1]
    simp only [kk]
   rw [e1]
   refine za _ m1.hp ?_
   refine zcl rfl rfl rfl rfl (it := ti209) (ik := ti3) rfl rfl rfl m1.ha rfl (qA id) (fun e he => ?_) ?_
   ·obtain ⟨e, _, rfl⟩ := List.mem_map.1 he
    rfl
   have e2 : zb7 (l.map entA) bs1 c1 (qA id) = .map ((yh l id).map entA) (bs1.eraseIdx i) c1 := by
    unfold zb7
    rw [zff, hi1]
    simp only [her]
   rw [e2]
   have m2 := m1.setA (yh l id) (bs1.eraseIdx i) c1
   rw [hid] at v1
   exact ret (h _ ⟨ma, mi, _, _, _, _, _, m2, v1 hn0⟩)
  ·have hn0 : ns' ≠ [] := fun e => by rw [e] at hz; exact hz rfl
   refine ADraw.of_sched zc (by rfl) (by rfl) zus (by rfl) ?_
   refine za (o := (a.setObj g'.b _).obj p) _ mid.hp ?_
   refine ⟨xu (.inl rfl) rfl (it := ti210) (ik := ti214) rfl rfl rfl mid.hi rfl rfl (qG (zp e.2).1 (zp e.2).2) (fun e he => ?_) (fun e1 he hq => ?_) ⟨(by repeat (first | exact Tv | refine ⟨rfl, ?_⟩ | refine ⟨optR (optR (optR (za _ (zb _ _ _) rfl))), ?_⟩)), ?_⟩, Tv⟩
   ·obtain ⟨e, _, rfl⟩ := List.mem_map.1 he
    rfl
   ·obtain ⟨g1, _, rfl⟩ := List.mem_map.1 he
    have := (atKey_iff (k := zp e.2) (g := g1)).1 hq
    show AV.agg [int g1.x, int g1.y] = _
    rw [<- this]; rfl
   let g2 : Grp := ⟨g'.x, g'.y, ns', g'.b, g'.cap, List.replicate 1 (aI 0) ++ g'.L⟩
   have e1 : jz (G.map entG) bs2 c2 (qG (zp e.2).1 (zp e.2).2) (.agg [int (zp e.2).1, int (zp e.2).2]) (.s (.slice (some ⟨g'.b, 0, none⟩) ns'.length g'.cap)) = .map ((G.set j g2).map entG) bs2 c2 := by
    unfold jz
    rw [zfe, hj1, List.map_set]
    simp only
    congr 2
    show _ = (AV.agg [int g'.x, int g'.y], _)
    rw [<- hk]; rfl
   have m1 := mid.setI (G' := G.set j g2) bs2 c2 (fun g1 h1 => ?_) (by rw [za7 (fun g : Grp => g.b) (g' := g2) hj2 rfl]; exact mid.nd)
   rotate_left
   ·rcases (y3 (f := fun g : Grp => g.b) ha.nd hj2).1 h1 with rfl | ⟨q1, q2⟩
    ·refine .inr ⟨zb _ _ _, ⟨?_, ?_, k2.2.2⟩, k3⟩
     ·show ns'.length <= g'.cap
      have := k2.1; omega
     ·show g'.cap <= ns'.length + (List.replicate 1 (aI 0) ++ g'.L).length
      have := k2.2.1
      simp; omega
    ·exact .inl ⟨q1, q2⟩
   rw [<- e1] at m1
   refine za _ m1.hp ?_
   refine zcl rfl rfl rfl rfl (it := ti209) (ik := ti3) rfl rfl rfl m1.ha rfl (qA id) (fun e he => ?_) ?_
   ·obtain ⟨e, _, rfl⟩ := List.mem_map.1 he
    rfl
   have e2 : zb7 (l.map entA) bs1 c1 (qA id) = .map ((yh l id).map entA) (bs1.eraseIdx i) c1 := by
    unfold zb7
    rw [zff, hi1]
    simp only [her]
   rw [e2]
   have m2 := m1.setA (yh l id) (bs1.eraseIdx i) c1
   rw [hid] at v2
   exact ret (h _ ⟨ma, mi, _, _, _, _, _, m2, v2 hn0 g2 rfl rfl⟩)
end Go.Proofs
namespace Go.Proofs
open Go Go.V
set_option maxRecDepth 4000
theorem zbh {l : List Ent} {id : Int} : ∀ e ∈ yh l id, e.1 ≠ id := fun e he => (mem_dropId.1 he).2
theorem zs7 (l : List Ent) (id : Int) : (yh l id).length <= l.length := List.length_filter_le _ _
set_option maxHeartbeats 1000000 in
theorem zkq {a : Store} {p : Nat} {l : List Ent} (hc : CellsOf a p l) (hl : l.length <= 1000000000) (hok : ∀ e ∈ l, e.2.ok) (id : Int) (pos : Vc) (hpos : pos.ok) (R : AV -> Store -> Prop)
  (h : ∀ a', CellsOf a' p (yh l id ++ [(id, pos)]) -> R (.tup []) a') : ACalls Tryz.prog 133 [.s (.pointer (some ⟨p, 0, none⟩)), int id, .agg (vecC pos)] a R := by
 refine ACalls.of_body (c := cfg 46 [38, 1000038] []) zc Tryz.func133 (by rfl) (by rfl) (by rfl) (by rfl) ?_
 refine zaq hc hl hok id _ (fun a1 hc1 => ?_)
 obtain ⟨ma, mi, bs1, c1, G, bs2, c2, ha, hi⟩ := hc1
 refine v6 pos hpos _ _ ?_
 obtain ⟨cur, ns, e1, e2, e3, e4, e5, e6⟩ := zvk (pos := pos) ha hi zbh
 have hnl : ns.length <= 1000000000 := by
  rcases e4 with rfl | ⟨g, hg, rfl⟩
  ·simp
  ·have h1 := zpa hi g hg
   have h2 := zs7 l id
   omega
 have hle := yi2 id ns
 refine ADraw.of_sched zc (by rfl) (by rfl) yhf (by rfl) ?_
 refine za (o := a1.obj p) _ ha.hp ?_
 refine ⟨y4 rfl (it := ti210) (ie := ti29) (ik := ti214) rfl rfl rfl rfl ha.hi rfl (qG (zp pos).1 (zp pos).2) (fun e he => ?_) ⟨(by repeat (first | exact Tv | refine ⟨rfl, ?_⟩ | refine ⟨optR (optR (optR (za _ (zb _ _ _) rfl))), ?_⟩)), ?_⟩, Tv⟩
 ·obtain ⟨e, _, rfl⟩ := List.mem_map.1 he
  rfl
 rw [zxh, show zav ti29 = .s (.slice none 0 0) from rfl, e1]
 refine ⟨zew e2 id (by omega) (zuj e3) _ ⟨(by repeat (first | exact Tv | refine ⟨rfl, ?_⟩ | refine ⟨optR (optR (optR (za _ (zb _ _ _) rfl))), ?_⟩)), ?_⟩, Tv⟩
 refine ⟨⟨(by repeat (first | exact Tv | refine ⟨rfl, ?_⟩ | refine ⟨optR (optR (optR (za _ (zb _ _ _) rfl))), ?_⟩)), ?_⟩, Tv⟩
 refine ⟨⟨(by repeat (first | exact Tv | refine ⟨rfl, ?_⟩ | refine ⟨optR (optR (optR (za _ (zb _ _ _) rfl))), ?_⟩)), ?_⟩, Tv⟩
 refine ADraw.of_sched zc (by rfl) (by rfl) yhe (by rfl) ?_
 refine za (o := a1.obj p) _ ha.hp ?_
 refine za (o := a1.obj p) _ ha.hp ?_
 refine ⟨y4 rfl (it := ti210) (ie := ti29) (ik := ti214) rfl rfl rfl rfl ha.hi rfl (qG (zp pos).1 (zp pos).2) (fun e he => ?_) ⟨?_, ?_⟩, ?_⟩
 ·obtain ⟨e, _, rfl⟩ := List.mem_map.1 he
  rfl
 ·repeat (first | exact Tv | refine ⟨rfl, ?_⟩ | refine ⟨za (o := a1.obj p) _ ha.hp rfl, ?_⟩)
 ·rw [zxh, show zav ti29 = .s (.slice none 0 0) from rfl, e1]
  refine ⟨⟨by decide, fun vb hvb => ?_⟩, Tv⟩
  have hp1 := (ha.fresh (.cells [aI id]) hvb).hp
  refine ⟨?_, ?_⟩
  ·repeat (first | exact Tv | refine ⟨rfl, ?_⟩ | refine ⟨za (o := (a1.setObj vb (.cells [aI id])).obj p) _ hp1 rfl, ?_⟩)
  refine ⟨zgq (e2.fresh _ hvb) id _ hle (zb _ _ _) (fun b cap hc he => e5 b cap hc (he ▸ hvb.1)) (by omega) _ (fun b cap L q1 q2 q3 q4 => ?_), Tv⟩
  obtain ⟨w1, w2, G', bs2', c2', w3, w4, w5⟩ := e6 vb _ b cap L hvb q1 q2 q3 q4
  refine ⟨?_, ?_⟩
  ·repeat (first | exact Tv | refine ⟨rfl, ?_⟩ | refine ⟨za (o := Store.obj (Store.setObj _ b _) p) _ w2 rfl, ?_⟩)
  refine ⟨xu (.inl rfl) rfl (it := ti210) (ik := ti214) rfl rfl rfl w1 rfl rfl (qG (zp pos).1 (zp pos).2) (fun e he => ?_) (fun e1 he hq => ?_) ⟨(by repeat (first | exact Tv | refine ⟨rfl, ?_⟩ | refine ⟨optR (optR (optR (za _ (zb _ _ _) rfl))), ?_⟩)), ?_⟩, Tv⟩
  ·obtain ⟨e, _, rfl⟩ := List.mem_map.1 he
   rfl
  ·obtain ⟨g1, _, rfl⟩ := List.mem_map.1 he
   have := (atKey_iff (k := zp pos) (g := g1)).1 hq
   show AV.agg [int g1.x, int g1.y] = _
   rw [<- this]; rfl
  rw [w3]
  refine ADraw.of_sched zc (by rfl) (by rfl) zp7 (by rfl) ?_
  refine za (o := Store.obj (Store.setObj _ mi _) p) _ w4.hp ?_
  refine ⟨xu (.inl rfl) rfl (it := ti209) (ik := ti3) rfl rfl rfl w4.ha rfl rfl (qA id) (fun e he => ?_) (fun e1 he hq => ?_) ⟨(by repeat (first | exact Tv | refine ⟨rfl, ?_⟩ | refine ⟨optR (optR (optR (za _ (zb _ _ _) rfl))), ?_⟩)), ?_⟩, Tv⟩
  ·obtain ⟨e, _, rfl⟩ := List.mem_map.1 he
   rfl
  ·obtain ⟨g1, hg1, rfl⟩ := List.mem_map.1 he
   have : id = g1.1 := by simpa [qA, entA, int] using hq
   exact absurd this.symm (zbh g1 hg1)
  have e7 : jz ((yh l id).map entA) bs1 c1 (qA id) (int id) (.agg (vecC pos)) = .map ((yh l id ++ [(id, pos)]).map entA) (bs1 ++ [c1]) (c1 + 1) := by
   unfold jz
   have : (yh l id).findIdx? (atId id) = none := by
    rw [List.findIdx?_eq_none_iff]
    intro e he
    have := zbh e he
    simp [atId]
    exact fun h => this h.symm
   rw [zff, this, List.map_append]
   rfl
  have w6 := w4.setA (yh l id ++ [(id, pos)]) (bs1 ++ [c1]) (c1 + 1)
  rw [<- e7] at w6
  exact ret (h _ ⟨ma, mi, _, _, G', _, _, w6, w5⟩)
 ·refine ⟨⟨by decide, fun vb hvb => ?_⟩, Tv⟩
  have ha1 := ha.fresh (.cells [aI id]) hvb
  have hp1 := ha1.hp
  refine ⟨?_, ?_⟩
  ·repeat (first | exact Tv | refine ⟨rfl, ?_⟩ | refine ⟨za (o := (a1.setObj vb (.cells [aI id])).obj p) _ hp1 rfl, ?_⟩)
  refine ⟨y4 rfl (it := ti210) (ie := ti29) (ik := ti214) rfl rfl rfl rfl ha1.hi rfl (qG (zp pos).1 (zp pos).2) (fun e he => ?_) ⟨?_, ?_⟩, Tv⟩
  ·obtain ⟨e, _, rfl⟩ := List.mem_map.1 he
   rfl
  ·repeat (first | exact Tv | refine ⟨rfl, ?_⟩ | refine ⟨za (o := (a1.setObj vb (.cells [aI id])).obj p) _ hp1 rfl, ?_⟩)
  rw [zxh, show zav ti29 = .s (.slice none 0 0) from rfl, e1]
  refine ⟨zgq (e2.fresh _ hvb) id _ hle (zb _ _ _) (fun b cap hc he => e5 b cap hc (he ▸ hvb.1)) (by omega) _ (fun b cap L q1 q2 q3 q4 => ?_), Tv⟩
  obtain ⟨w1, w2, G', bs2', c2', w3, w4, w5⟩ := e6 vb _ b cap L hvb q1 q2 q3 q4
  refine ⟨?_, ?_⟩
  ·repeat (first | exact Tv | refine ⟨rfl, ?_⟩ | refine ⟨za (o := Store.obj (Store.setObj _ b _) p) _ w2 rfl, ?_⟩)
  refine ⟨xu (.inl rfl) rfl (it := ti210) (ik := ti214) rfl rfl rfl w1 rfl rfl (qG (zp pos).1 (zp pos).2) (fun e he => ?_) (fun e1 he hq => ?_) ⟨(by repeat (first | exact Tv | refine ⟨rfl, ?_⟩ | refine ⟨optR (optR (optR (za _ (zb _ _ _) rfl))), ?_⟩)), ?_⟩, Tv⟩
  ·obtain ⟨e, _, rfl⟩ := List.mem_map.1 he
   rfl
  ·obtain ⟨g1, _, rfl⟩ := List.mem_map.1 he
   have := (atKey_iff (k := zp pos) (g := g1)).1 hq
   show AV.agg [int g1.x, int g1.y] = _
   rw [<- this]; rfl
  rw [w3]
  refine ADraw.of_sched zc (by rfl) (by rfl) zp7 (by rfl) ?_
  refine za (o := Store.obj (Store.setObj _ mi _) p) _ w4.hp ?_
  refine ⟨xu (.inl rfl) rfl (it := ti209) (ik := ti3) rfl rfl rfl w4.ha rfl rfl (qA id) (fun e he => ?_) (fun e1 he hq => ?_) ⟨(by repeat (first | exact Tv | refine ⟨rfl, ?_⟩ | refine ⟨optR (optR (optR (za _ (zb _ _ _) rfl))), ?_⟩)), ?_⟩, Tv⟩
  ·obtain ⟨e, _, rfl⟩ := List.mem_map.1 he
   rfl
  ·obtain ⟨g1, hg1, rfl⟩ := List.mem_map.1 he
   have : id = g1.1 := by simpa [qA, entA, int] using hq
   exact absurd this.symm (zbh g1 hg1)
  have e7 : jz ((yh l id).map entA) bs1 c1 (qA id) (int id) (.agg (vecC pos)) = .map ((yh l id ++ [(id, pos)]).map entA) (bs1 ++ [c1]) (c1 + 1) := by
   unfold jz
   have : (yh l id).findIdx? (atId id) = none := by
    rw [List.findIdx?_eq_none_iff]
    intro e he
    have := zbh e he
    simp [atId]
    exact fun h => this h.symm
   rw [zff, this, List.map_append]
   rfl
  have w6 := w4.setA (yh l id ++ [(id, pos)]) (bs1 ++ [c1]) (c1 + 1)
  rw [<- e7] at w6
  exact ret (h _ ⟨ma, mi, _, _, G', _, _, w6, w5⟩)
end Go.Proofs
namespace Go.Proofs
open Go Go.V
set_option maxRecDepth 4000
def ptr (b : Nat) : AV := .s (.pointer (some ⟨b, 0, none⟩))
set_option maxHeartbeats 1000000 in
theorem zlf {F N : Store} (hd : Disj F N) {p : Nat} {l : List Ent} (hc : CellsOf F p l) {b3 b4 b5 b6 : Nat} {q : Vc} {r : Int} {v : AV} {acc : List Int} (hN : NearAt N b3 b4 b5 b6 p q r v acc) (hq : q.ok) (hr : r <= 9223372036854775807)
  {e : Ent} (he : l.find? (atId e.1) = some e) (hok : e.2.ok) (hlen : acc.length <= 1000000000000) (R : AV -> Store -> Prop)
  (h : ∀ N' v', Disj F N' -> NearAt N' b3 b4 b5 b6 p q r v' (if near q e.2 r then acc ++ [e.1] else acc) -> R (.tup []) (F.un N')) :
  ACalls Tryz.prog 207 [int e.1, ptr b4, ptr b3, ptr b5, ptr b6] (F.un N) R := by
 obtain ⟨ma, mi, bs1, c1, G, bs2, c2, ha, hi⟩ := hc
 refine ACalls.of_body (c := cfg 19) zc Tryz.func207 (by rfl) (by rfl) (by rfl) (by rfl) ?_
 refine ADraw.of_sched zc (by rfl) (by rfl) ygj (by rfl) ?_
 refine za (o := (F.un N).obj b4) _ (un_r hN.h4) ?_
 refine za (o := (F.un N).obj b3) _ (un_r hN.h3) ?_
 refine za (o := (F.un N).obj p) _ (un_l hd ha.hp) ?_
 refine za (o := (F.un N).obj b5) _ (un_r hN.h5) ?_
 refine ⟨y4 rfl (it := ti209) (ie := ti49) (ik := ti3) rfl rfl rfl rfl (un_l hd ha.ha) rfl (qA e.1) (fun e he => ?_) ⟨?_, ?_⟩, Tv⟩
 ·obtain ⟨e, _, rfl⟩ := List.mem_map.1 he
  rfl
 ·repeat (first | exact Tv | refine ⟨rfl, ?_⟩ | refine ⟨za (o := (F.un N).obj b4) _ (un_r hN.h4) rfl, ?_⟩ | refine ⟨za (o := (F.un N).obj b5) _ (un_r hN.h5) rfl, ?_⟩)
 rw [ypw, he]
 refine ⟨zbm q e.2 r hq hok hr _ _ ⟨Tv, ?_⟩, Tv⟩
 cases hn : near q e.2 r with
 | false =>
  rw [hn] at h
  exact ret (h N v hd hN)
 | true =>
  rw [hn] at h
  refine za (o := (F.un N).obj b6) _ (un_r hN.h6) ?_
  refine ⟨by decide, ?_⟩
  refine yon (ie := ti3) rfl rfl rfl hN.hv.un e.1 hlen (fun b cap L q1 q2 q3 q4 => ?_)
  have q1' : Fresh N b \/ ∃ c0, v = .s (.slice (some ⟨b, 0, none⟩) acc.length c0) := q1.imp (fun h => (zaf h).2) id
  have hN' := hN.app q1' q2 q3 q4
  rw [zq]
  have hd1 : Disj F (N.setObj b (.cells ((acc ++ [e.1]).map aI ++ L))) := by
   rcases q1 with q1 | ⟨c0, q1⟩
   ·exact zbi hd (zaf q1).1
   ·rcases hN.hv with ⟨h1, _⟩ | ⟨b', _, _, h1, h2, _⟩
    ·rw [h1] at q1; cases q1
    ·rw [h1] at q1
     simp at q1
     exact kn hd (q1.1 ▸ h2)
  have hd2 := kn (x := .cells [.s (.slice (some ⟨b, 0, none⟩) (acc ++ [e.1]).length cap)]) hd1 (b := b6) (y := .cells [v]) (by
   have hne : b6 ≠ b := by
    rcases q1' with q1 | ⟨c0, q1⟩
    ·exact Ne.symm (q1.ne_obj hN.h6)
    ·exact Ne.symm (hN.nv b _ _ q1).2.2.2
   rw [zf hne]; exact hN.h6)
  have h6' : (N.setObj b (.cells ((acc ++ [e.1]).map aI ++ L))).obj b6 = some (.cells [v]) := by
   have hne : b6 ≠ b := by
    rcases q1' with q1 | ⟨c0, q1⟩
    ·exact Ne.symm (q1.ne_obj hN.h6)
    ·exact Ne.symm (hN.nv b _ _ q1).2.2.2
   rw [zf hne]; exact hN.h6
  refine zj (i := ti29) (v := .s (.slice (some ⟨b, 0, none⟩) (acc ++ [e.1]).length cap)) (b := b6) (o := 0) (l := [v]) (st2 := F.un ((N.setObj b (.cells ((acc ++ [e.1]).map aI ++ L))).setObj b6 (.cells [.s (.slice (some ⟨b, 0, none⟩) (acc ++ [e.1]).length cap)]))) rfl rfl rfl (un_r h6') (Nat.le_refl _) ?_ ?_
  ·rw [zq]; rfl
  ·exact ret (h _ _ hd2 hN')
end Go.Proofs
namespace Go.Proofs
open Go Go.V
set_option maxRecDepth 4000
theorem CellsOf.fresh {F : Store} {p : Nat} {l : List Ent} (h : CellsOf F p l) {b : Nat} (x : AObj) (hb : Fresh F b) : CellsOf (F.setObj b x) p l := by
 obtain ⟨ma, mi, bs1, c1, G, bs2, c2, ha, hi⟩ := h
 exact ⟨ma, mi, bs1, c1, G, bs2, c2, ha.fresh x hb, hi⟩
theorem zui {st : Store} {b cap : Nat} {ns : List Int} {L : List AV} (ho : st.obj b = some (.cells (ns.map aI ++ L))) (hlen : ns.length < 4611686018427387904) (R : AV -> Store -> Prop)
  (h : R (.tup []) (st.setObj b (.cells ((ns.mergeSort fun x y => decide (x <= y)).map aI ++ L)))) : ACalls Tryz.prog 208 [.s (.slice (some ⟨b, 0, none⟩) ns.length cap)] st R :=
 yfx Tryz.lays189 Tryz.func208 rfl rfl ho hlen h
theorem yfw {st : Store} (R : AV -> Store -> Prop) (h : R (.tup []) st) : ACalls Tryz.prog 208 [.s (.slice none 0 0)] st R :=
 zlo Tryz.lays189 Tryz.func208 rfl rfl h
def zlg (b3 b4 b5 b6 : Nat) : AV := .clos 207 [ptr b4, ptr b3, ptr b5, ptr b6]
set_option maxHeartbeats 2000000 in
theorem zhu {F : Store} {p : Nat} {l : List Ent} (hc : CellsOf F p l) (hl : l.length <= 1000000000) (hok : ∀ e ∈ l, e.2.ok) {q : Vc} (hq : q.ok) {r : Int} (hr : yi r) (R : AV -> Store -> Prop)
  (h : ∀ F' N v ns, CellsOf F' p l -> Disj F' N -> Ints N v ns -> zno l q r ns -> R v (F'.un N)) : ACalls Tryz.prog 180 [ptr p, .agg (vecC q), int r] F R := by
 refine ACalls.of_awp (c := cfg 126 [3, 4, 5, 6] []) zc Tryz.func180 (by rfl) (by rfl) (by rfl) (by rfl) ?_
 refine AWp.seq (AWp.of_vc zc ?_)
 intro b3 hb3 b4 hb4 b5 hb5 b6 hb6
 have n43 : b4 ≠ b3 := fun e => by have := hb4.1; rw [e, zb] at this; cases this
 have n54 : b5 ≠ b4 := fun e => by have := hb5.1; rw [e, zb] at this; cases this
 have n53 : b5 ≠ b3 := fun e => by have := hb5.1; rw [e, zf (Ne.symm n43), zb] at this; cases this
 have n65 : b6 ≠ b5 := fun e => by have := hb6.1; rw [e, zb] at this; cases this
 have n64 : b6 ≠ b4 := fun e => by have := hb6.1; rw [e, zf (Ne.symm n54), zb] at this; cases this
 have n63 : b6 ≠ b3 := fun e => by have := hb6.1; rw [e, zf (Ne.symm n53), zf (Ne.symm n43), zb] at this; cases this
 have est : (((F.setObj b3 (.cells [ptr p])).setObj b4 (.cells (vecC q))).setObj b5 (.cells [int r])).setObj b6 (.cells [.s (.slice none 0 0)]) =
   F.un ((((Store.empty.setObj b3 (.cells [ptr p])).setObj b4 (.cells (vecC q))).setObj b5 (.cells [int r])).setObj b6 (.cells [.s (.slice none 0 0)])) := by
  rw [<- zq, <- zq, <- zq, <- zq, zcn]
 have f3 : Fresh F b3 := hb3
 have f4 : Fresh F b4 := by have := hb4; rw [<- zcn F, zq] at this; exact (zaf this).1
 have f5 : Fresh F b5 := by have := hb5; rw [<- zcn F, zq, zq] at this; exact (zaf this).1
 have f6 : Fresh F b6 := by have := hb6; rw [<- zcn F, zq, zq, zq] at this; exact (zaf this).1
 have hN0 : NearAt ((((Store.empty.setObj b3 (.cells [ptr p])).setObj b4 (.cells (vecC q))).setObj b5 (.cells [int r])).setObj b6 (.cells [.s (.slice none 0 0)])) b3 b4 b5 b6 p q r (.s (.slice none 0 0)) [] := by
  refine ⟨?_, ?_, ?_, zb _ _ _, .inl ⟨rfl, rfl⟩, Ne.symm n63, Ne.symm n64, Ne.symm n65, fun b n cap e => by cases e⟩
  ·rw [zf (Ne.symm n63), zf (Ne.symm n53), zf (Ne.symm n43)]; exact zb _ _ _
  ·rw [zf (Ne.symm n64), zf (Ne.symm n54)]; exact zb _ _ _
  ·rw [zf (Ne.symm n65)]; exact zb _ _ _
 have hd0 : Disj F ((((Store.empty.setObj b3 (.cells [ptr p])).setObj b4 (.cells (vecC q))).setObj b5 (.cells [int r])).setObj b6 (.cells [.s (.slice none 0 0)])) :=
  zbi (zbi (zbi (zbi (zta F) f3) f4) f5) f6
 show AWp _ _ _ _ _ ((((F.setObj b3 (.cells [ptr p])).setObj b4 (.cells (vecC q))).setObj b5 (.cells [int r])).setObj b6 (.cells [.s (.slice none 0 0)]))
 rw [est]
 generalize ((((Store.empty.setObj b3 (.cells [ptr p])).setObj b4 (.cells (vecC q))).setObj b5 (.cells [int r])).setObj b6 (.cells [.s (.slice none 0 0)])) = N0 at *
 clear est hb3 hb4 hb5 hb6
 refine AWp.seq (AWp.of_vc zc ?_)
 refine za (o := (F.un N0).obj b5) _ (un_r hN0.h5) ?_
 refine bcd (fun c1 => ?_) (fun c1 => ?_)
 ·refine jj (i := ti29) (v := .s (.slice none 0 0)) (b := b6) (o := 0) (l := [.s (.slice none 0 0)]) rfl rfl rfl (un_r hN0.h6) (Nat.le_refl _) ?_
  refine za (o := Store.obj (Store.setObj _ b6 _) b6) _ (zb _ _ _) ?_
  refine ret ?_
  rw [zq]
  refine h F _ _ [] hc (kn hd0 hN0.h6) (.inl ⟨rfl, rfl⟩) ⟨List.Pairwise.nil, fun id => ⟨(fun h => (by cases h)), fun ⟨e, _, _, hn⟩ => ?_⟩⟩
  unfold near at hn
  have := (of_decide_eq_true hn).1
  omega
 refine AWp.seq (AWp.of_vc zc ?_)
 have hr0 : 0 < r := by omega
 have hr1 : r <= 9223372036854775807 := hr.2
 have sub_q1 := zbg q.1 r
 have sub_q2 := zbg q.2 r
 have add_q1 := zke q.1 r
 have add_q2 := zke q.2 r
 refine AWp.meet (σ := Unit) ⟨fun _ => [(3, .av (ptr b3)), (4, .av (ptr b4)), (5, .av (ptr b5)), (6, .av (ptr b6)), (7, .av (zlg b3 b4 b5 b6)), (8, .bx 8 0)], fun _ => [(8, [int (zp (fsub q.1 r, fsub q.2 r)).1, int (zp (fsub q.1 r, fsub q.2 r)).2])],
  fun _ st' => st' = F.un N0⟩ zc ?_ ?_
 ·refine ADraw.of_sched zc (by rfl) (by rfl) ygw (by rfl) ?_
  refine za (o := (F.un N0).obj b4) _ (un_r hN0.h4) ?_
  refine za (o := (F.un N0).obj b5) _ (un_r hN0.h5) ?_
  refine za (o := (F.un N0).obj b4) _ (un_r hN0.h4) ?_
  refine za (o := (F.un N0).obj b5) _ (un_r hN0.h5) ?_
  refine ⟨vn q.1 r hq.1 hr _ _ ⟨(by repeat (first | exact Tv | refine ⟨rfl, ?_⟩ | refine ⟨za (o := (F.un N0).obj b4) _ (un_r hN0.h4) rfl, ?_⟩ | refine ⟨za (o := (F.un N0).obj b5) _ (un_r hN0.h5) rfl, ?_⟩)), ⟨vn q.2 r hq.2 hr _ _ ⟨(by repeat (first | exact Tv | refine ⟨rfl, ?_⟩ | refine ⟨za (o := (F.un N0).obj b4) _ (un_r hN0.h4) rfl, ?_⟩ | refine ⟨za (o := (F.un N0).obj b5) _ (un_r hN0.h5) rfl, ?_⟩)), ⟨v6 (fsub q.1 r, fsub q.2 r) ⟨sub_q1, sub_q2⟩ _ _ ⟨(by repeat (first | exact Tv | refine ⟨rfl, ?_⟩ | refine ⟨za (o := (F.un N0).obj b4) _ (un_r hN0.h4) rfl, ?_⟩ | refine ⟨za (o := (F.un N0).obj b5) _ (un_r hN0.h5) rfl, ?_⟩)), ⟨⟨(by repeat (first | exact Tv | refine ⟨rfl, ?_⟩ | refine ⟨za (o := (F.un N0).obj b4) _ (un_r hN0.h4) rfl, ?_⟩ | refine ⟨za (o := (F.un N0).obj b5) _ (un_r hN0.h5) rfl, ?_⟩)), ⟨⟨(by repeat (first | exact Tv | refine ⟨rfl, ?_⟩ | refine ⟨za (o := (F.un N0).obj b4) _ (un_r hN0.h4) rfl, ?_⟩ | refine ⟨za (o := (F.un N0).obj b5) _ (un_r hN0.h5) rfl, ?_⟩)), ?_⟩, Tv⟩⟩, Tv⟩⟩, ⟨⟨(by repeat (first | exact Tv | refine ⟨rfl, ?_⟩ | refine ⟨za (o := (F.un N0).obj b4) _ (un_r hN0.h4) rfl, ?_⟩ | refine ⟨za (o := (F.un N0).obj b5) _ (un_r hN0.h5) rfl, ?_⟩)), ⟨v6 (fsub q.1 r, fsub q.2 r) ⟨sub_q1, sub_q2⟩ _ _ ⟨(by repeat (first | exact Tv | refine ⟨rfl, ?_⟩ | refine ⟨za (o := (F.un N0).obj b4) _ (un_r hN0.h4) rfl, ?_⟩ | refine ⟨za (o := (F.un N0).obj b5) _ (un_r hN0.h5) rfl, ?_⟩)), ⟨⟨(by repeat (first | exact Tv | refine ⟨rfl, ?_⟩ | refine ⟨za (o := (F.un N0).obj b4) _ (un_r hN0.h4) rfl, ?_⟩ | refine ⟨za (o := (F.un N0).obj b5) _ (un_r hN0.h5) rfl, ?_⟩)), ?_⟩, Tv⟩⟩, Tv⟩⟩, Tv⟩⟩⟩, ⟨⟨(by repeat (first | exact Tv | refine ⟨rfl, ?_⟩ | refine ⟨za (o := (F.un N0).obj b4) _ (un_r hN0.h4) rfl, ?_⟩ | refine ⟨za (o := (F.un N0).obj b5) _ (un_r hN0.h5) rfl, ?_⟩)), ⟨vn q.2 r hq.2 hr _ _ ⟨(by repeat (first | exact Tv | refine ⟨rfl, ?_⟩ | refine ⟨za (o := (F.un N0).obj b4) _ (un_r hN0.h4) rfl, ?_⟩ | refine ⟨za (o := (F.un N0).obj b5) _ (un_r hN0.h5) rfl, ?_⟩)), ⟨v6 (fsub q.1 r, fsub q.2 r) ⟨sub_q1, sub_q2⟩ _ _ ⟨(by repeat (first | exact Tv | refine ⟨rfl, ?_⟩ | refine ⟨za (o := (F.un N0).obj b4) _ (un_r hN0.h4) rfl, ?_⟩ | refine ⟨za (o := (F.un N0).obj b5) _ (un_r hN0.h5) rfl, ?_⟩)), ⟨⟨(by repeat (first | exact Tv | refine ⟨rfl, ?_⟩ | refine ⟨za (o := (F.un N0).obj b4) _ (un_r hN0.h4) rfl, ?_⟩ | refine ⟨za (o := (F.un N0).obj b5) _ (un_r hN0.h5) rfl, ?_⟩)), ?_⟩, Tv⟩⟩, Tv⟩⟩, Tv⟩⟩, Tv⟩⟩⟩, ⟨⟨(by repeat (first | exact Tv | refine ⟨rfl, ?_⟩ | refine ⟨za (o := (F.un N0).obj b4) _ (un_r hN0.h4) rfl, ?_⟩ | refine ⟨za (o := (F.un N0).obj b5) _ (un_r hN0.h5) rfl, ?_⟩)), ⟨vn q.1 r hq.1 hr _ _ ⟨(by repeat (first | exact Tv | refine ⟨rfl, ?_⟩ | refine ⟨za (o := (F.un N0).obj b4) _ (un_r hN0.h4) rfl, ?_⟩ | refine ⟨za (o := (F.un N0).obj b5) _ (un_r hN0.h5) rfl, ?_⟩)), ⟨vn q.2 r hq.2 hr _ _ ⟨(by repeat (first | exact Tv | refine ⟨rfl, ?_⟩ | refine ⟨za (o := (F.un N0).obj b4) _ (un_r hN0.h4) rfl, ?_⟩ | refine ⟨za (o := (F.un N0).obj b5) _ (un_r hN0.h5) rfl, ?_⟩)), ⟨v6 (fsub q.1 r, fsub q.2 r) ⟨sub_q1, sub_q2⟩ _ _ ⟨(by repeat (first | exact Tv | refine ⟨rfl, ?_⟩ | refine ⟨za (o := (F.un N0).obj b4) _ (un_r hN0.h4) rfl, ?_⟩ | refine ⟨za (o := (F.un N0).obj b5) _ (un_r hN0.h5) rfl, ?_⟩)), ⟨⟨(by repeat (first | exact Tv | refine ⟨rfl, ?_⟩ | refine ⟨za (o := (F.un N0).obj b4) _ (un_r hN0.h4) rfl, ?_⟩ | refine ⟨za (o := (F.un N0).obj b5) _ (un_r hN0.h5) rfl, ?_⟩)), ?_⟩, Tv⟩⟩, Tv⟩⟩, Tv⟩⟩, Tv⟩⟩, Tv⟩⟩
  all_goals exact ⟨(), rfl, ⟨Tq, Tq, Tq, Tq, Tq, Tq, Tv⟩, ⟨rfl, Tv⟩⟩
 rintro _ _ rfl
 refine AWp.meet (σ := Unit) ⟨fun _ => [(3, .av (ptr b3)), (6, .av (ptr b6)), (7, .av (zlg b3 b4 b5 b6)), (8, .bx 8 0), (9, .bx 9 0)], fun _ => [(8, [int (zp (fsub q.1 r, fsub q.2 r)).1, int (zp (fsub q.1 r, fsub q.2 r)).2]), (9, [int (zp (fadd q.1 r, fadd q.2 r)).1, int (zp (fadd q.1 r, fadd q.2 r)).2])],
  fun _ st' => st' = F.un N0⟩ zc ?_ ?_
 ·refine ADraw.of_sched zc (by rfl) (by rfl) ygv (by rfl) ?_
  refine za (o := (F.un N0).obj b4) _ (un_r hN0.h4) ?_
  refine za (o := (F.un N0).obj b5) _ (un_r hN0.h5) ?_
  refine za (o := (F.un N0).obj b4) _ (un_r hN0.h4) ?_
  refine za (o := (F.un N0).obj b5) _ (un_r hN0.h5) ?_
  refine ⟨vx q.1 r hq.1 hr _ _ ⟨(by repeat (first | exact Tv | refine ⟨rfl, ?_⟩ | refine ⟨za (o := (F.un N0).obj b4) _ (un_r hN0.h4) rfl, ?_⟩ | refine ⟨za (o := (F.un N0).obj b5) _ (un_r hN0.h5) rfl, ?_⟩)), ⟨vx q.2 r hq.2 hr _ _ ⟨(by repeat (first | exact Tv | refine ⟨rfl, ?_⟩ | refine ⟨za (o := (F.un N0).obj b4) _ (un_r hN0.h4) rfl, ?_⟩ | refine ⟨za (o := (F.un N0).obj b5) _ (un_r hN0.h5) rfl, ?_⟩)), ⟨v6 (fadd q.1 r, fadd q.2 r) ⟨add_q1, add_q2⟩ _ _ ⟨(by repeat (first | exact Tv | refine ⟨rfl, ?_⟩ | refine ⟨za (o := (F.un N0).obj b4) _ (un_r hN0.h4) rfl, ?_⟩ | refine ⟨za (o := (F.un N0).obj b5) _ (un_r hN0.h5) rfl, ?_⟩)), ⟨⟨(by repeat (first | exact Tv | refine ⟨rfl, ?_⟩ | refine ⟨za (o := (F.un N0).obj b4) _ (un_r hN0.h4) rfl, ?_⟩ | refine ⟨za (o := (F.un N0).obj b5) _ (un_r hN0.h5) rfl, ?_⟩)), ⟨⟨(by repeat (first | exact Tv | refine ⟨rfl, ?_⟩ | refine ⟨za (o := (F.un N0).obj b4) _ (un_r hN0.h4) rfl, ?_⟩ | refine ⟨za (o := (F.un N0).obj b5) _ (un_r hN0.h5) rfl, ?_⟩)), ?_⟩, Tv⟩⟩, Tv⟩⟩, ⟨⟨(by repeat (first | exact Tv | refine ⟨rfl, ?_⟩ | refine ⟨za (o := (F.un N0).obj b4) _ (un_r hN0.h4) rfl, ?_⟩ | refine ⟨za (o := (F.un N0).obj b5) _ (un_r hN0.h5) rfl, ?_⟩)), ⟨v6 (fadd q.1 r, fadd q.2 r) ⟨add_q1, add_q2⟩ _ _ ⟨(by repeat (first | exact Tv | refine ⟨rfl, ?_⟩ | refine ⟨za (o := (F.un N0).obj b4) _ (un_r hN0.h4) rfl, ?_⟩ | refine ⟨za (o := (F.un N0).obj b5) _ (un_r hN0.h5) rfl, ?_⟩)), ⟨⟨(by repeat (first | exact Tv | refine ⟨rfl, ?_⟩ | refine ⟨za (o := (F.un N0).obj b4) _ (un_r hN0.h4) rfl, ?_⟩ | refine ⟨za (o := (F.un N0).obj b5) _ (un_r hN0.h5) rfl, ?_⟩)), ?_⟩, Tv⟩⟩, Tv⟩⟩, Tv⟩⟩⟩, ⟨⟨(by repeat (first | exact Tv | refine ⟨rfl, ?_⟩ | refine ⟨za (o := (F.un N0).obj b4) _ (un_r hN0.h4) rfl, ?_⟩ | refine ⟨za (o := (F.un N0).obj b5) _ (un_r hN0.h5) rfl, ?_⟩)), ⟨vx q.2 r hq.2 hr _ _ ⟨(by repeat (first | exact Tv | refine ⟨rfl, ?_⟩ | refine ⟨za (o := (F.un N0).obj b4) _ (un_r hN0.h4) rfl, ?_⟩ | refine ⟨za (o := (F.un N0).obj b5) _ (un_r hN0.h5) rfl, ?_⟩)), ⟨v6 (fadd q.1 r, fadd q.2 r) ⟨add_q1, add_q2⟩ _ _ ⟨(by repeat (first | exact Tv | refine ⟨rfl, ?_⟩ | refine ⟨za (o := (F.un N0).obj b4) _ (un_r hN0.h4) rfl, ?_⟩ | refine ⟨za (o := (F.un N0).obj b5) _ (un_r hN0.h5) rfl, ?_⟩)), ⟨⟨(by repeat (first | exact Tv | refine ⟨rfl, ?_⟩ | refine ⟨za (o := (F.un N0).obj b4) _ (un_r hN0.h4) rfl, ?_⟩ | refine ⟨za (o := (F.un N0).obj b5) _ (un_r hN0.h5) rfl, ?_⟩)), ?_⟩, Tv⟩⟩, Tv⟩⟩, Tv⟩⟩, Tv⟩⟩⟩, ⟨⟨(by repeat (first | exact Tv | refine ⟨rfl, ?_⟩ | refine ⟨za (o := (F.un N0).obj b4) _ (un_r hN0.h4) rfl, ?_⟩ | refine ⟨za (o := (F.un N0).obj b5) _ (un_r hN0.h5) rfl, ?_⟩)), ⟨vx q.1 r hq.1 hr _ _ ⟨(by repeat (first | exact Tv | refine ⟨rfl, ?_⟩ | refine ⟨za (o := (F.un N0).obj b4) _ (un_r hN0.h4) rfl, ?_⟩ | refine ⟨za (o := (F.un N0).obj b5) _ (un_r hN0.h5) rfl, ?_⟩)), ⟨vx q.2 r hq.2 hr _ _ ⟨(by repeat (first | exact Tv | refine ⟨rfl, ?_⟩ | refine ⟨za (o := (F.un N0).obj b4) _ (un_r hN0.h4) rfl, ?_⟩ | refine ⟨za (o := (F.un N0).obj b5) _ (un_r hN0.h5) rfl, ?_⟩)), ⟨v6 (fadd q.1 r, fadd q.2 r) ⟨add_q1, add_q2⟩ _ _ ⟨(by repeat (first | exact Tv | refine ⟨rfl, ?_⟩ | refine ⟨za (o := (F.un N0).obj b4) _ (un_r hN0.h4) rfl, ?_⟩ | refine ⟨za (o := (F.un N0).obj b5) _ (un_r hN0.h5) rfl, ?_⟩)), ⟨⟨(by repeat (first | exact Tv | refine ⟨rfl, ?_⟩ | refine ⟨za (o := (F.un N0).obj b4) _ (un_r hN0.h4) rfl, ?_⟩ | refine ⟨za (o := (F.un N0).obj b5) _ (un_r hN0.h5) rfl, ?_⟩)), ?_⟩, Tv⟩⟩, Tv⟩⟩, Tv⟩⟩, Tv⟩⟩, Tv⟩⟩
  all_goals exact ⟨(), rfl, ⟨Tq, Tq, Tq, Tq, Tq, Tv⟩, ⟨rfl, rfl, Tv⟩⟩
 rintro _ _ rfl
 have hab := ynq hq hr0 hr1
 have hA := zxx (p := (fsub q.1 r, fsub q.2 r)) ⟨zbg _ _, zbg _ _⟩
 have hB := zxx (p := (fadd q.1 r, fadd q.2 r)) ⟨zke _ _, zke _ _⟩
 have hrect : ∀ e ∈ l, near q e.2 r = true -> _ := fun e he hn => zv4 hq (hok e he) hr0 hr1 hn
 generalize zp (fsub q.1 r, fsub q.2 r) = A0 at *
 generalize zp (fadd q.1 r, fadd q.2 r) = B0 at *
 obtain ⟨ax, ay⟩ := A0
 obtain ⟨bx, by'⟩ := B0
 dsimp only at hab hA hB hrect ⊢
 refine AWp.meetA (σ := Store × Store × AV × List Int) ⟨fun _ => [(6, .av (ptr b6))], fun _ => [], fun s st' => st' = s.1.un s.2.1 /\ Disj s.1 s.2.1 /\ CellsOf s.1 p l /\ NearAt s.2.1 b3 b4 b5 b6 p q r s.2.2.1 s.2.2.2 /\ NearIn l q r (fun _ => True) s.2.2.2⟩ ?_ ?_
 ·obtain ⟨ma, mi, bs1, cl1, G, bs2, cl2, ha, hi⟩ := hc
  have hgl : (G.map entG).length <= l.length := by rw [List.length_map]; exact zss hi
  have slots : ∀ b : Bool, LV.le (.av (bool b)) (.av (bool b)) := fun b => Tq
  refine AWp.seq (AWp.of_vc zc ?_)
  refine za (o := (F.un N0).obj b3) _ (un_r hN0.h3) ?_
  refine za (o := (F.un N0).obj p) _ (un_l hd0 ha.hp) ?_
  refine za (o := (F.un N0).obj mi) _ (un_l hd0 ha.hi) ?_
  refine ⟨⟨by omega, by omega⟩, ?_⟩
  refine AWp.meet (σ := Bool) ⟨fun b => [(3, .av (ptr b3)), (6, .av (ptr b6)), (7, .av (zlg b3 b4 b5 b6)), (8, .bx 8 0), (9, .bx 9 0), (77, .av (bool b))], fun _ => [(8, [int ax, int ay]), (9, [int bx, int by'])],
   fun b st' => st' = F.un N0⟩ zc ?_ ?_
  ·refine ⟨⟨by omega, by omega⟩, ?_⟩
   refine bcd (fun d1 => ?_) (fun d1 => ?_)
   ·exact ⟨true, rfl, ⟨Tq, Tq, Tq, Tq, Tq, Tq, Tv⟩, ⟨rfl, rfl, Tv⟩⟩
   refine ⟨⟨by omega, by omega⟩, ?_⟩
   refine bcd (fun d2 => ?_) (fun d2 => ?_)
   ·exact ⟨true, rfl, ⟨Tq, Tq, Tq, Tq, Tq, Tq, Tv⟩, ⟨rfl, rfl, Tv⟩⟩
   have m1 : (bx - ax + 1) * (by' - ay + 1) <= 1000000002 * 1000000002 := Int.mul_le_mul (by omega) (by omega) (by omega) (by decide)
   have m0 : 0 <= (bx - ax + 1) * (by' - ay + 1) := Int.mul_nonneg (by omega) (by omega)
   refine ⟨⟨by omega, by omega⟩, ?_⟩
   refine ⟨⟨by omega, by omega⟩, ?_⟩
   refine ⟨⟨by omega, by omega⟩, ?_⟩
   refine ⟨⟨by omega, by omega⟩, ?_⟩
   refine ⟨⟨by omega, by omega⟩, ?_⟩
   exact ⟨_, rfl, ⟨Tq, Tq, Tq, Tq, Tq, Tq, Tv⟩, ⟨rfl, rfl, Tv⟩⟩
  rintro b _ rfl
  refine AWp.of_vc zc ?_
  cases b with
  | true =>
   refine za (o := (F.un N0).obj b3) _ (un_r hN0.h3) ?_
   refine za (o := (F.un N0).obj p) _ (un_l hd0 ha.hp) ?_
   refine zpn (un_l hd0 ha.ha) (fun hst => ?_)
   refine ztq rfl (it := ti209) rfl rfl (un_l hd0 ha.ha) (fun bi hbi => ?_)
   have fbi := zaf hbi
   have nbi : ¬ N0.has bi := fresh_iff.1 fbi.2
   rw [we nbi]
   refine AWp.loop (σ := List Nat × Store × AV × List Int) ⟨fun _ => [(6, .av (ptr b6)), (7, .av (zlg b3 b4 b5 b6)), (82, .av (ptr bi))], fun _ => [],
    fun s st' => st' = (F.setObj bi (.iter ma cl1 s.1 cl1)).un s.2.1 /\ Disj (F.setObj bi (.iter ma cl1 s.1 cl1)) s.2.1 /\ NearAt s.2.1 b3 b4 b5 b6 p q r s.2.2.1 s.2.2.2 /\ s.1.Nodup /\ (∀ t ∈ s.1, t ∈ bs1) ∧
     NearIn l q r (fun e => ∃ (i t : Nat), l[i]? = some e /\ bs1[i]? = some t /\ t ∈ s.1) s.2.2.2, fun s => bs1.length - s.1.length⟩ zc ?_ ?_
   ·exact ⟨([], N0, _, []), Tv, ⟨rfl, zde hd0 nbi, hN0, List.nodup_nil, (fun t ht => (by cases ht)), List.nodup_nil, fun id => ⟨(fun h => (by cases h)), fun ⟨e, _, _, _, i, t, _, _, h⟩ => (by cases h)⟩⟩, ⟨Tq, Tq, Tq, Tv⟩, Tv⟩
   rintro ⟨seen, N, v, acc⟩ st' ⟨rfl, hd, hN, hs1, hs2, hacc⟩
   dsimp only at hd hN hs1 hs2 hacc ⊢
   have hF1 : CellsAt (F.setObj bi (.iter ma cl1 seen cl1)) p ma mi l bs1 cl1 G bs2 cl2 := ha.fresh _ fbi.1
   refine zyg rfl (un_l hd (zb _ _ _)) (un_l hd hF1.ha) (fun hall => ?_) (fun i e t he ht hnt => ?_)
   ·refine ⟨(F.setObj bi (.iter ma cl1 seen cl1), N, v, acc), ⟨rfl, hd, ⟨ma, mi, _, _, _, _, _, hF1, hi⟩, hN, ?_⟩, ⟨Tq, Tv⟩, Tv⟩
    refine hacc.congr fun e he _ => ⟨fun _ => trivial, fun _ => ?_⟩
    obtain ⟨i, hi'⟩ := List.mem_iff_getElem?.1 he
    have hlt : i < bs1.length := by
     have h1 := hst.len
     have h2 := (List.getElem?_eq_some_iff.1 hi').1
     rw [List.length_map] at h1
     omega
    exact ⟨i, bs1[i], hi', List.getElem?_eq_getElem hlt, hall _ (List.getElem_mem hlt)⟩
   ·obtain ⟨e0, he0, rfl⟩ : ∃ e0, l[i]? = some e0 /\ entA e0 = e := by
     rw [List.getElem?_map] at he
     cases hx : l[i]? with
     | none => rw [hx] at he; cases he
     | some e0 => rw [hx] at he; simp at he; exact ⟨e0, rfl, he⟩
    have hem := List.mem_of_getElem? he0
    obtain ⟨hd', nb⟩ := zs9 (y := .iter ma cl1 (seen ++ [t]) cl1) hd
    have hF2 : CellsAt (F.setObj bi (.iter ma cl1 (seen ++ [t]) cl1)) p ma mi l bs1 cl1 G bs2 cl2 := ha.fresh _ fbi.1
    rw [we nb, zg]
    refine zts rfl (un_l hd' (zb _ _ _)) (un_l hd' hF2.ha) he ht ?_
    refine zlf hd' ⟨ma, mi, _, _, _, _, _, hF2, hi⟩ hN hq hr1 (zmx hi.n1 hem) (hok _ hem) (by have := hacc.len; omega) _ (fun N' v' hdd hN' => ?_)
    refine ⟨(seen ++ [t], N', v', _), ?_, ⟨rfl, hdd, hN', ?_, ?_, ?_⟩, ⟨Tq, Tq, Tq, Tv⟩, Tv⟩
    ·have h1 : (seen ++ [t]).Nodup := by
      rw [List.nodup_append]
      exact ⟨hs1, by simp, fun a ha b hb => by simp at hb; subst hb; exact fun e => hnt (e ▸ ha)⟩
     have h2 := List.Nodup.length_le_of_subset (l₂ := bs1) h1 (fun x hx => by
      rcases List.mem_append.1 hx with hx | hx
      ·exact hs2 x hx
      ·simp at hx; subst hx; exact List.mem_of_getElem? ht)
     rw [List.length_append] at h2
     show bs1.length - (seen ++ [t]).length < bs1.length - seen.length
     rw [List.length_append]
     simp at h2 ⊢
     omega
    ·show (seen ++ [t]).Nodup
     rw [List.nodup_append]
     exact ⟨hs1, by simp, fun a ha b hb => by simp at hb; subst hb; exact fun e => hnt (e ▸ ha)⟩
    ·intro x hx
     rcases List.mem_append.1 hx with hx | hx
     ·exact hs2 x hx
     ·simp at hx; subst hx; exact List.mem_of_getElem? ht
    ·refine (hacc.step hi.n1 hem (fun hh => ?_)).congr fun e' he' _ => ⟨fun hh => ?_, fun hh => ?_⟩
     ·obtain ⟨i', t', h1, h2, h3⟩ := hh
      have := qn (f := fun e : Ent => e.1) hi.n1 h1 he0 rfl
      subst this
      rw [ht] at h2
      cases h2
      exact hnt h3
     ·rcases hh with ⟨i', t', h1, h2, h3⟩ | rfl
      ·exact ⟨i', t', h1, h2, List.mem_append_left _ h3⟩
      ·exact ⟨i, t, he0, ht, by simp⟩
     ·obtain ⟨i', t', h1, h2, h3⟩ := hh
      rcases List.mem_append.1 h3 with h3 | h3
      ·exact .inl ⟨i', t', h1, h2, h3⟩
      ·simp at h3
       subst h3
       right
       have hinc := hst.inc
       have : i' = i := by
        have hn : (bs1.map id).Nodup := by
         rw [List.map_id]
         exact hinc.imp fun h e => by omega
        exact qn (f := id) hn h2 ht rfl
       subst this
       rw [he0] at h1
       cases h1; rfl
  | false =>
   refine AWp.loop (σ := Int × Store × AV × List Int) ⟨fun s => [(3, .av (ptr b3)), (6, .av (ptr b6)), (7, .av (zlg b3 b4 b5 b6)), (8, .bx 8 0), (9, .bx 9 0), (12, .av (int s.1))], fun _ => [(8, [int ax, int ay]), (9, [int bx, int by'])],
    fun s st' => st' = F.un s.2.1 /\ Disj F s.2.1 /\ NearAt s.2.1 b3 b4 b5 b6 p q r s.2.2.1 s.2.2.2 /\ (ax <= s.1 /\ s.1 <= bx + 1) /\ NearIn l q r (fun e => (zp e.2).1 < s.1) s.2.2.2, fun s => (bx + 1 - s.1).toNat⟩ zc ?_ ?_
   ·refine ⟨(ax, N0, _, []), Tv, ⟨rfl, hd0, hN0, ⟨Int.le_refl _, by omega⟩, List.nodup_nil, fun id => ⟨(fun h => (by cases h)), fun ⟨e, he, _, hn, h⟩ => ?_⟩⟩, ⟨Tq, Tq, Tq, Tq, Tq, Tq, Tv⟩, ⟨rfl, rfl, Tv⟩⟩
    have := hrect e he hn
    dsimp only at h
    omega
   rintro ⟨x, N, v, acc⟩ st' ⟨rfl, hd, hN, hx, hacc⟩
   dsimp only at hd hN hx hacc ⊢
   refine bcd (fun x1 => ?_) (fun x1 => ?_)
   rotate_left
   ·refine ⟨(F, N, v, acc), ⟨rfl, hd, ⟨ma, mi, _, _, _, _, _, ha, hi⟩, hN, ?_⟩, ⟨Tq, Tv⟩, Tv⟩
    refine hacc.congr fun e he hn => ⟨fun _ => trivial, fun _ => ?_⟩
    have := hrect e he hn
    omega
   refine AWp.loop (σ := Int × Store × AV × List Int) ⟨fun s => [(3, .av (ptr b3)), (6, .av (ptr b6)), (7, .av (zlg b3 b4 b5 b6)), (8, .bx 8 0), (9, .bx 9 0), (12, .av (int x)), (13, .av (int s.1))], fun _ => [(8, [int ax, int ay]), (9, [int bx, int by'])],
    fun s st' => st' = F.un s.2.1 /\ Disj F s.2.1 /\ NearAt s.2.1 b3 b4 b5 b6 p q r s.2.2.1 s.2.2.2 /\ (ay <= s.1 /\ s.1 <= by' + 1) /\ NearIn l q r (fun e => (zp e.2).1 < x \/ ((zp e.2).1 = x /\ (zp e.2).2 < s.1)) s.2.2.2, fun s => (by' + 1 - s.1).toNat⟩ zc ?_ ?_
   ·refine ⟨(ay, N, v, acc), Tv, ⟨rfl, hd, hN, ⟨Int.le_refl _, by omega⟩, hacc.congr fun e he hn => ⟨.inl, fun h => h.elim id fun h => ?_⟩⟩, ⟨Tq, Tq, Tq, Tq, Tq, Tq, Tq, Tv⟩, ⟨rfl, rfl, Tv⟩⟩
    have := hrect e he hn
    dsimp only at h
    omega
   clear hN hacc hd
   rintro ⟨y, N, v, acc⟩ st' ⟨rfl, hd, hN, hy, hacc⟩
   dsimp only at hd hN hy hacc ⊢
   refine bcd (fun y1 => ?_) (fun y1 => ?_)
   rotate_left
   ·refine ⟨⟨by omega, by omega⟩, ?_⟩
    refine ⟨(x + 1, N, v, acc), ?_, ⟨rfl, hd, hN, by dsimp only; omega, hacc.congr fun e he hn => ?_⟩, ⟨Tq, Tq, Tq, Tq, Tq, Tq, Tv⟩, ⟨rfl, rfl, Tv⟩⟩
    ·show (bx + 1 - (x + 1)).toNat < (bx + 1 - x).toNat
     omega
    ·have := hrect e he hn
     dsimp only
     omega
   refine za (o := (F.un N).obj b3) _ (un_r hN.h3) ?_
   refine za (o := (F.un N).obj p) _ (un_l hd ha.hp) ?_
   refine y4 rfl (it := ti210) (ie := ti29) (ik := ti214) rfl rfl rfl rfl (un_l hd ha.hi) rfl (qG x y) (fun e he => ?_) ?_
   ·obtain ⟨e, _, rfl⟩ := List.mem_map.1 he
    rfl
   rw [zxh G (x, y), show zav ti29 = .s (.slice none 0 0) from rfl]
   cases hf : G.find? (zhc (x, y)) with
   | none =>
    refine AWp.loop (σ := Unit) ⟨fun _ => [(3, .av (ptr b3)), (6, .av (ptr b6)), (7, .av (zlg b3 b4 b5 b6)), (8, .bx 8 0), (9, .bx 9 0), (12, .av (int x)), (13, .av (int y)), (114, .av (int 0)), (115, .av (int 0))], fun _ => [(8, [int ax, int ay]), (9, [int bx, int by'])],
     fun _ st' => st' = F.un N, fun _ => 0⟩ zc ?_ ?_
    ·exact ⟨(), Tv, rfl, ⟨Tq, Tq, Tq, Tq, Tq, Tq, Tq, Tq, Tq, Tv⟩, ⟨rfl, rfl, Tv⟩⟩
    rintro _ st' rfl
    ·refine ⟨⟨by omega, by omega⟩, ?_⟩
     refine ⟨(y + 1, N, v, acc), ?_, ⟨rfl, hd, hN, by dsimp only; omega, hacc.congr fun e he hn => ?_⟩, ⟨Tq, Tq, Tq, Tq, Tq, Tq, Tq, Tv⟩, ⟨rfl, rfl, Tv⟩⟩
     ·show (by' + 1 - (y + 1)).toNat < (by' + 1 - y).toNat
      omega
     ·have hne : zp e.2 ≠ (x, y) := fun hk => by
       obtain ⟨g, hg, hgk⟩ := hi.m2 e he
       exact List.find?_eq_none.1 hf g hg (atKey_iff.2 (by rw [hgk, hk]))
      have : ¬ ((zp e.2).1 = x /\ (zp e.2).2 = y) := fun ⟨h1, h2⟩ => hne (Prod.ext h1 h2)
      dsimp only
      omega
   | some g =>
    obtain ⟨hg, hgk⟩ := zdd hf
    have hgk := atKey_iff.1 hgk
    obtain ⟨k1, k2, k3⟩ := ha.hg g hg
    have gs := (hi.s g hg).1
    have gl := zpa hi g hg
    refine AWp.loop (σ := Nat × Store × AV × List Int) ⟨fun s => [(3, .av (ptr b3)), (6, .av (ptr b6)), (7, .av (zlg b3 b4 b5 b6)), (8, .bx 8 0), (9, .bx 9 0), (12, .av (int x)), (13, .av (int y)), (113, .av (.s (.slice (some ⟨g.b, 0, none⟩) g.ns.length g.cap))), (114, .av (int g.ns.length)), (115, .av (int (s.1 : Nat)))],
     fun _ => [(8, [int ax, int ay]), (9, [int bx, int by'])],
     fun s st' => st' = F.un s.2.1 /\ Disj F s.2.1 /\ NearAt s.2.1 b3 b4 b5 b6 p q r s.2.2.1 s.2.2.2 /\ s.1 <= g.ns.length /\ NearIn l q r (fun e => ((zp e.2).1 < x \/ ((zp e.2).1 = x /\ (zp e.2).2 < y)) \/ (zp e.2 = (x, y) /\ e.1 ∈ g.ns.take s.1)) s.2.2.2, fun s => g.ns.length - s.1⟩ zc ?_ ?_
    ·exact ⟨(0, N, v, acc), Tv, ⟨rfl, hd, hN, Nat.zero_le _, hacc.congr fun e he hn => ⟨.inl, fun h => h.elim id fun h => (by cases h.2)⟩⟩, ⟨Tq, Tq, Tq, Tq, Tq, Tq, Tq, Tq, Tq, Tq, Tv⟩, ⟨rfl, rfl, Tv⟩⟩
    clear hN hacc hd
    rintro ⟨idx, N, v, acc⟩ st' ⟨rfl, hd, hN, hidx, hacc⟩
    dsimp only at hd hN hidx hacc ⊢
    refine bcd (fun z1 => ?_) (fun z1 => ?_)
    rotate_left
    ·have hie : idx = g.ns.length := by omega
     subst hie
     refine ⟨⟨by omega, by omega⟩, ?_⟩
     refine ⟨(y + 1, N, v, acc), ?_, ⟨rfl, hd, hN, by dsimp only; omega, hacc.congr fun e he hn => ?_⟩, ⟨Tq, Tq, Tq, Tq, Tq, Tq, Tq, Tv⟩, ⟨rfl, rfl, Tv⟩⟩
     ·show (by' + 1 - (y + 1)).toNat < (by' + 1 - y).toNat
      omega
     ·rw [List.take_length]
      have h1 : zp e.2 = (x, y) ↔ ((zp e.2).1 = x /\ (zp e.2).2 = y) := ⟨fun h => by rw [h]; exact ⟨rfl, rfl⟩, fun ⟨h1, h2⟩ => Prod.ext h1 h2⟩
      have h2 : zp e.2 = (x, y) -> e.1 ∈ g.ns := fun h => (hi.m1 g hg e.1).2 ⟨e, he, rfl, by rw [h, hgk]⟩
      dsimp only
      constructor
      ·rintro (h | ⟨h, _⟩)
       ·omega
       ·have := h1.1 h; omega
      ·intro h
       by_cases h3 : zp e.2 = (x, y)
       ·exact .inr ⟨h3, h2 h3⟩
       ·have h4 : ¬ ((zp e.2).1 = x /\ (zp e.2).2 = y) := fun hh => h3 (h1.2 hh)
        left
        omega
    have hlt : idx < g.ns.length := by omega
    have hidm : g.ns[idx] ∈ g.ns := List.getElem_mem hlt
    obtain ⟨e, hem, heid, hek⟩ := (hi.m1 g hg g.ns[idx]).1 hidm
    refine ⟨idx, rfl, hlt, ?_⟩
    refine za (o := (F.un N).obj g.b) _ (un_l hd k1) ?_
    refine za (o := List.head? _) (int e.1) (by
     rw [List.head?_drop, show 0 + idx * ti3.size = idx from by show 0 + idx * 1 = idx; omega, List.getElem?_append_left (by simpa using hlt), List.getElem?_map, List.getElem?_eq_getElem hlt, heid]; rfl) ?_
    refine zlf hd ⟨ma, mi, _, _, _, _, _, ha, hi⟩ hN hq hr1 (zmx hi.n1 hem) (hok _ hem) (by have := hacc.len; omega) _ (fun N' v' hdd hN' => ?_)
    refine ⟨⟨by omega, by omega⟩, ?_⟩
    refine ⟨(idx + 1, N', v', _), ?_, ⟨rfl, hdd, hN', hlt, ?_⟩, ⟨Tq, Tq, Tq, Tq, Tq, Tq, Tq, Tq, Tq, Tq, Tv⟩, ⟨rfl, rfl, Tv⟩⟩
    ·show g.ns.length - (idx + 1) < g.ns.length - idx
     omega
    ·have hkey : zp e.2 = (x, y) := by rw [hek, hgk]
     have hnot : e.1 ∉ g.ns.take idx := by
      rw [heid]
      intro hh
      obtain ⟨j, hj⟩ := List.mem_iff_getElem?.1 hh
      have hjlt : j < idx := by
       have := (List.getElem?_eq_some_iff.1 hj).1
       simp at this; omega
      rw [List.getElem?_take_of_lt hjlt] at hj
      have h5 := List.pairwise_iff_getElem.1 gs j idx (by omega) hlt hjlt
      rw [List.getElem?_eq_getElem (by omega)] at hj
      have hj' := Option.some.inj hj
      rw [hj'] at h5
      exact absurd h5 (Int.lt_irrefl _)
     refine (hacc.step hi.n1 hem (fun hh => ?_)).congr fun e' he' _ => ?_
     ·rcases hh with hh | ⟨_, hh⟩
      ·rw [hkey] at hh; dsimp only at hh; omega
      ·exact hnot hh
     ·dsimp only
      rw [List.take_succ_eq_append_getElem hlt, List.mem_append]
      constructor
      ·rintro ((h | ⟨h, h'⟩) | rfl)
       ·exact .inl h
       ·exact .inr ⟨h, .inl h'⟩
       ·exact .inr ⟨hkey, .inr (by simp [heid])⟩
      ·rintro (h | ⟨h, h' | h'⟩)
       ·exact .inl (.inl h)
       ·exact .inl (.inr ⟨h, h'⟩)
       ·right
        have : e'.1 = e.1 := by rw [heid]; simpa using h'
        exact zwu hi.n1 hem he' this
 ·rintro ⟨F', N, v, acc⟩ st' ⟨rfl, hd, hc', hN, hacc⟩
  dsimp only at hd hc' hN hacc ⊢
  refine AWp.of_vc zc ?_
  refine za (o := (F'.un N).obj b6) _ (un_r hN.h6) ?_
  have hms := zl9 hacc.1
  have hnear : zno l q r (acc.mergeSort fun x y => decide (x <= y)) := ⟨hms.1, fun id => by
   rw [hms.2, hacc.2 id]
   constructor
   ·rintro ⟨e, h1, h2, h3, _⟩; exact ⟨e, h1, h2, h3⟩
   ·rintro ⟨e, h1, h2, h3⟩; exact ⟨e, h1, h2, h3, Tv⟩⟩
  have hal := hacc.len
  have hml : (acc.mergeSort fun x y => decide (x <= y)).length = acc.length := List.length_mergeSort acc
  rcases k8 hN.hv with ⟨rfl, rfl⟩ | ⟨b, cap, L, rfl, ho, h1, h2, h3⟩
  ·refine yfw _ ?_
   refine za (o := (F'.un N).obj b6) _ (un_r hN.h6) ?_
   refine jj (i := ti29) (v := .s (.slice none 0 0)) (b := b6) (o := 0) (l := [.s (.slice none 0 0)]) rfl rfl rfl (un_r hN.h6) (Nat.le_refl _) ?_
   refine za (o := Store.obj (Store.setObj _ b6 _) b6) _ (zb _ _ _) ?_
   refine ret ?_
   rw [zq]
   exact h F' _ _ _ hc' (kn hd hN.h6) (.inl ⟨rfl, by simp⟩) hnear
  ·refine zui (un_r ho) (by omega) _ ?_
   have hb6 : b6 ≠ b := Ne.symm (hN.nv b _ _ rfl).2.2.2
   have h6 : ((F'.un N).setObj b (.cells ((acc.mergeSort fun x y => decide (x <= y)).map aI ++ L))).obj b6 = some (.cells [.s (.slice (some ⟨b, 0, none⟩) acc.length cap)]) := by rw [zf hb6]; exact un_r hN.h6
   refine za (o := Store.obj (Store.setObj _ b _) b6) _ h6 ?_
   refine jj (i := ti29) (v := .s (.slice (some ⟨b, 0, none⟩) acc.length cap)) (b := b6) (o := 0) (l := [.s (.slice (some ⟨b, 0, none⟩) acc.length cap)]) rfl rfl rfl h6 (Nat.le_refl _) ?_
   refine za (o := Store.obj (Store.setObj _ b6 _) b6) _ (zb _ _ _) ?_
   refine ret ?_
   rw [zq, zq]
   refine h F' _ _ _ hc' (kn (kn hd ho) (by rw [zf hb6]; exact hN.h6)) (.inr ⟨b, cap, L, ?_, ?_, ?_, ?_, h3⟩) hnear
   ·rw [hml]; rfl
   ·rw [zf (Ne.symm hb6)]; exact zb _ _ _
   ·omega
   ·omega
end Go.Proofs
namespace Go.Proofs
open Go Go.V
set_option maxRecDepth 4000
/-- The cells beside something else. -/
theorem yi4 {F S : Store} {p : Nat} {l : List Ent} (hc : CellsOf F p l) (hd : Disj F S) (hl : l.length <= 1000000000) (hok : ∀ e ∈ l, e.2.ok) (id : Int) (R : AV -> Store -> Prop)
  (h : ∀ F', CellsOf F' p (yh l id) -> Disj F' S -> R (V.bool (l.find? (atId id)).isSome) (F'.un S)) : ACalls Tryz.prog 164 [ptr p, int id] (F.un S) R :=
 ACalls.frame (R := fun r a' => r = V.bool (l.find? (atId id)).isSome /\ CellsOf a' p (yh l id)) hd (zaq hc hl hok id _ fun a' ha' => ⟨rfl, ha'⟩) fun r a' ⟨h1, h2⟩ hd' => h1 ▸ h a' h2 hd'
theorem yoi {F S : Store} {p : Nat} {l : List Ent} (hc : CellsOf F p l) (hd : Disj F S) (hl : l.length <= 1000000000) (hok : ∀ e ∈ l, e.2.ok) (id : Int) (pos : Vc) (hpos : pos.ok) (R : AV -> Store -> Prop)
  (h : ∀ F', CellsOf F' p (yh l id ++ [(id, pos)]) -> Disj F' S -> R (.tup []) (F'.un S)) : ACalls Tryz.prog 133 [ptr p, int id, .agg (vecC pos)] (F.un S) R :=
 ACalls.frame (R := fun r a' => r = .tup [] /\ CellsOf a' p (yh l id ++ [(id, pos)])) hd (zkq hc hl hok id pos hpos _ fun a' ha' => ⟨rfl, ha'⟩) fun r a' ⟨h1, h2⟩ hd' => h1 ▸ h a' h2 hd'
theorem yjy {F S : Store} {p : Nat} {l : List Ent} (hc : CellsOf F p l) (hd : Disj F S) (hl : l.length <= 1000000000) (hok : ∀ e ∈ l, e.2.ok) {q : Vc} (hq : q.ok) {r : Int} (hr : yi r) (R : AV -> Store -> Prop)
  (h : ∀ F' N v ns, CellsOf F' p l -> Disj F' N -> Disj F' S -> Disj N S -> Ints N v ns -> zno l q r ns -> R v ((F'.un N).un S)) : ACalls Tryz.prog 180 [ptr p, .agg (vecC q), int r] (F.un S) R :=
 ACalls.frame (R := fun v a' => ∃ F' N ns, a' = F'.un N /\ CellsOf F' p l /\ Disj F' N /\ Ints N v ns /\ zno l q r ns) hd (zhu hc hl hok hq hr _ fun F' N v ns h1 h2 h3 h4 => ⟨F', N, ns, rfl, h1, h2, h3, h4⟩)
  fun v a' ⟨F', N, ns, h1, h2, h3, h4, h5⟩ hd' => by subst h1; exact h F' N v ns h2 h3 (disj_un.1 hd').1 (disj_un.1 hd').2 h4 h5
end Go.Proofs
