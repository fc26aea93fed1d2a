/- The ground on which laws of thronglaw23 are proved: contracts of functions and plain lemmas; no condition beyond the row's own. -/
import Derived.Test.YtlmechfgnfepoaaGreatVF
import Derived.Test.YtlmechfgnfepoaaGreatSC
set_option linter.unusedSimpArgs false
set_option linter.unusedVariables false
namespace Go.Proofs
open Go Go.V
set_option linter.unusedVariables false
theorem down_spec (n : Int) (hn : InI64 n) (st : Store) (R : AV → Store → Prop) (h : R (int (nrm n / 131072)) st) : ACalls Tryz.prog 185 [int n] st R := by
  refine ACalls.of_body (c := cfg 15) infoOK Tryz.func185 (by rfl) (by rfl) (by rfl) (by rfl) ?_
  refine norm_spec n _ _ ?_
  have hb := nrm_b hn
  generalize nrm n = x at *
  refine bcd (fun c1 => ?_) (fun c1 => ?_)
  · refine ⟨⟨by omega, by omega⟩, ?_⟩
    refine ⟨⟨by omega, by omega⟩, ?_⟩
    refine ⟨by decide, ?_⟩
    have e : (0 - x - 1).tdiv 131072 = (0 - x - 1) / 131072 := Int.tdiv_eq_ediv_of_nonneg (by omega)
    rw [e]
    refine ⟨⟨by omega, by omega⟩, ?_⟩
    refine ⟨⟨by omega, by omega⟩, ?_⟩
    refine ⟨⟨by omega, by omega⟩, ?_⟩
    rw [show x / 131072 = 0 - ((0 - x - 1) / 131072 + 1) by omega] at h
    exact ret h
  · refine ⟨by decide, ?_⟩
    have e : x.tdiv 131072 = x / 131072 := Int.tdiv_eq_ediv_of_nonneg (by omega)
    rw [e]
    exact ⟨⟨by omega, by omega⟩, ret h⟩
theorem of_spec (p : Vc) (hp : p.ok) (st : Store) (R : AV → Store → Prop) (h : R (.agg [int (cellP p).1, int (cellP p).2]) st) : ACalls Tryz.prog 148 [.agg (vecC p)] st R := by
  refine ACalls.of_body (c := cfg 10) infoOK Tryz.func148 (by rfl) (by rfl) (by rfl) (by rfl) ?_
  refine ADraw.of_sched infoOK (by rfl) (by rfl) sch148_1 (by rfl) ?_
  refine ⟨down_spec p.1 hp.1 _ _ ⟨(by repeat (first | exact trivial | refine ⟨rfl, ?_⟩ | refine ⟨optR (optR (optR (optK_intro _ (setObj_self _ _ _) rfl))), ?_⟩)), ?_⟩, trivial⟩
  refine ⟨down_spec p.2 hp.2 _ _ ⟨(by repeat (first | exact trivial | refine ⟨rfl, ?_⟩ | refine ⟨optR (optR (optR (optK_intro _ (setObj_self _ _ _) rfl))), ?_⟩)), ?_⟩, trivial⟩
  refine ⟨⟨(by repeat (first | exact trivial | refine ⟨rfl, ?_⟩ | refine ⟨optR (optR (optR (optK_intro _ (setObj_self _ _ _) rfl))), ?_⟩)), ?_⟩, trivial⟩
  exact ret h
theorem cellsNew_spec (R : AV → Store → Prop) (h : ∀ a p, CellsOf a p [] → R (.s (.pointer (some ⟨p, 0, none⟩))) a) : ACalls Tryz.prog 107 [] Store.empty R := by
  refine ACalls.of_body (c := cfg 5 [4] []) infoOK Tryz.func107 (by rfl) (by rfl) (by rfl) (by rfl) ?_
  refine aeff_makeMap rfl (fun ma hma => ?_)
  refine aeff_makeMap rfl (fun mi hmi => ?_)
  intro p hp
  have h1 : mi ≠ ma := fun e => by have := hmi.1; rw [e, setObj_self] at this; cases this
  have h2 : p ≠ mi := fun e => by have := hp.1; rw [e, setObj_self] at this; cases this
  have h3 : p ≠ ma := fun e => by have := hp.1; rw [e, setObj_ne (Ne.symm h1), setObj_self] at this; cases this
  refine ret (h _ _ ⟨ma, mi, [], 0, [], [], 0, ⟨setObj_self _ _ _, ?_, ?_, Ne.symm h1, (fun g hg => (by cases hg)), List.nodup_nil⟩, ⟨List.nodup_nil, List.nodup_nil, (fun g hg => (by cases hg)), (fun g hg => (by cases hg)), (fun g hg => (by cases hg))⟩⟩)
  · rw [setObj_ne (Ne.symm h3), setObj_ne (Ne.symm h1)]; exact setObj_self _ _ _
  · rw [setObj_ne (Ne.symm h2)]; exact setObj_self _ _ _
theorem bsearch_spec {st : Store} {v : AV} {ns : List Int} (hv : Ints st v ns) (x : Int) (hlen : ns.length < 4611686018427387904) (hs : ns.Pairwise (· ≤ ·)) (R : AV → Store → Prop)
    (h : R (.tup [int (ns.countP (· < x) : Nat), bool (ns.contains x)]) st) : ACalls Tryz.prog 149 [v, int x] st R :=
  search_kit Tryz.laysNm225 Tryz.func149 rfl rfl hv x hlen hs h
theorem delete_spec {st : Store} {b cap i j : Nat} {ns : List Int} {L : List AV} (ho : st.obj b = some (.cells (ns.map aI ++ L)))
    (hc1 : ns.length ≤ cap) (hc2 : cap ≤ 9223372036854775807) (hij : i ≤ j) (hj : j ≤ ns.length) (R : AV → Store → Prop)
    (h : R (.s (.slice (some ⟨b, 0, none⟩) (ns.take i ++ ns.drop j).length cap)) (st.setObj b (.cells ((ns.take i ++ ns.drop j).map aI ++ (List.replicate (j - i) (aI 0) ++ L))))) :
    ACalls Tryz.prog 184 [.s (.slice (some ⟨b, 0, none⟩) ns.length cap), int i, int j] st R :=
  delete_kit Tryz.laysNm223 Tryz.func184 rfl rfl ho hc1 hc2 hij hj h
theorem insert_spec {st : Store} {v : AV} {ns : List Int} (hv : Ints st v ns) {vb : Nat} (x : Int) (i : Nat) (hi : i ≤ ns.length)
    (hvb : st.obj vb = some (.cells [aI x])) (hne : ∀ b cap, v = .s (.slice (some ⟨b, 0, none⟩) ns.length cap) → b ≠ vb) (hlen : (ns.length + 1) * 8 ≤ 140737488355328) (R : AV → Store → Prop)
    (h : ∀ b cap L, (Fresh st b ∨ ∃ c0, v = .s (.slice (some ⟨b, 0, none⟩) ns.length c0)) → (ns.take i ++ x :: ns.drop i).length ≤ cap → cap ≤ (ns.take i ++ x :: ns.drop i).length + L.length → cap ≤ 9223372036854775807 →
      R (.s (.slice (some ⟨b, 0, none⟩) (ns.take i ++ x :: ns.drop i).length cap)) (st.setObj b (.cells ((ns.take i ++ x :: ns.drop i).map aI ++ L)))) :
    ACalls Tryz.prog 150 [v, int i, .s (.slice (some ⟨vb, 0, none⟩) 1 1)] st R :=
  insert_kit Tryz.laysNm221 Tryz.func150 rfl rfl hv x i hi hvb hne hlen h
theorem cut_len {l : List Ent} {G : List Grp} (h : Inv l G) : ∀ g ∈ G, g.ns.length ≤ l.length := by
  intro g hg
  have h1 := (h.s g hg).1
  have h2 : g.ns.Nodup := h1.imp fun h e => by omega
  have h3 : g.ns ⊆ l.map (·.1) := fun id hid => by
    obtain ⟨e, he, h4, _⟩ := (h.m1 g hg id).1 hid
    exact List.mem_map.2 ⟨e, he, h4⟩
  have := List.Nodup.length_le_of_subset h2 h3
  simpa using this
theorem sort_le {ns : List Int} (h : ns.Pairwise (· < ·)) : ns.Pairwise (· ≤ ·) := h.imp fun h => by omega
set_option maxHeartbeats 1000000 in
theorem cellsRemove_spec {a : Store} {p : Nat} {l : List Ent} (hc : CellsOf a p l) (hl : l.length ≤ 1000000000) (hok : ∀ e ∈ l, e.2.ok) (id : Int) (R : AV → Store → Prop)
    (h : ∀ a', CellsOf a' p (dropId l id) → R (bool (l.find? (atId id)).isSome) a') : ACalls Tryz.prog 147 [.s (.pointer (some ⟨p, 0, none⟩)), int id] a R := by
  obtain ⟨ma, mi, bs1, c1, G, bs2, c2, ha, hi⟩ := hc
  refine ACalls.of_body (c := cfg 60) infoOK Tryz.func147 (by rfl) (by rfl) (by rfl) (by rfl) ?_
  refine optK_intro _ ha.hp ?_
  refine aeff_lookup rfl (it := ti164) (ie := ti38) (ik := ti3) rfl rfl rfl rfl ha.ha rfl (qA id) (fun e he => ?_) ?_
  · obtain ⟨e, _, rfl⟩ := List.mem_map.1 he
    rfl
  rw [findA]
  cases hf : l.find? (atId id) with
  | none =>
    rw [hf] at h
    refine ret (h a ?_)
    rw [dropId_none hf]
    exact ⟨ma, mi, bs1, c1, G, bs2, c2, ha, hi⟩
  | some e =>
    rw [hf] at h
    obtain ⟨hem, heq⟩ := find_mem hf
    have hid : e.1 = id := (by simpa [atId] using heq : id = e.1).symm
    refine of_spec e.2 (hok e hem) _ _ ?_
    obtain ⟨g, hg, hk⟩ := hi.m2 e hem
    have hfg : ∃ g', G.find? (atKey (cellP e.2)) = some g' := by
      cases hx : G.find? (atKey (cellP e.2)) with
      | some g' => exact ⟨g', rfl⟩
      | none => exact absurd (atKey_iff.2 hk) (by simpa using List.find?_eq_none.1 hx g hg)
    obtain ⟨g', hfg⟩ := hfg
    have hg' := find_mem hfg
    have : g' = g := key_eq hi.n2 hg hg'.1 (by rw [hk]; exact atKey_iff.1 hg'.2)
    subst this
    obtain ⟨j, hj1, hj2⟩ := find_idx hfg
    obtain ⟨k1, k2, k3⟩ := ha.hg g' hg
    obtain ⟨s1, s2⟩ := hi.s g' hg
    have hin : id ∈ g'.ns := (hi.m1 g' hg id).2 ⟨e, hem, hid, hk.symm⟩
    obtain ⟨d1, d2, d3⟩ := del_sorted s1 hin
    have hlen := cut_len hi g' hg
    refine ADraw.of_sched infoOK (by rfl) (by rfl) sch147_5 (by rfl) ?_
    refine optK_intro (o := a.obj p) _ ha.hp ?_
    refine ⟨aeff_lookup rfl (it := ti165) (ie := ti36) (ik := ti169) rfl rfl rfl rfl ha.hi rfl (qG (cellP e.2).1 (cellP e.2).2) (fun e he => ?_) ⟨(by repeat (first | exact trivial | refine ⟨rfl, ?_⟩ | refine ⟨optR (optR (optR (optK_intro _ (setObj_self _ _ _) rfl))), ?_⟩)), ?_⟩, trivial⟩
    · obtain ⟨e, _, rfl⟩ := List.mem_map.1 he
      rfl
    rw [findG, hfg]
    refine ⟨⟨(by repeat (first | exact trivial | refine ⟨rfl, ?_⟩ | refine ⟨optR (optR (optR (optK_intro _ (setObj_self _ _ _) rfl))), ?_⟩)), ?_⟩, trivial⟩
    refine bsearch_spec (.inr ⟨g'.b, g'.cap, g'.L, rfl, k1, k2⟩) id (by omega) (sort_le s1) _ ?_
    refine ⟨⟨by omega, by omega⟩, ?_⟩
    refine delete_spec k1 k2.1 k2.2.2 (Nat.le_add_right _ 1) d1 _ ?_
    generalize hns : g'.ns.take (g'.ns.countP fun x => decide (x < id)) ++ g'.ns.drop (g'.ns.countP (fun x => decide (x < id)) + 1) = ns' at *
    obtain ⟨n1, n2, n3⟩ := ha.g_ne hg
    have mid := ha.mid (.cells (ns'.map aI ++ (List.replicate (g'.ns.countP (fun x => decide (x < id)) + 1 - g'.ns.countP (fun x => decide (x < id))) (aI 0) ++ g'.L))) n3 n1 n2
    rw [show g'.ns.countP (fun x => decide (x < id)) + 1 - g'.ns.countP (fun x => decide (x < id)) = 1 by omega] at mid ⊢
    have hnl : ns'.length + 1 = g'.ns.length := by rw [← hns]; simp; omega
    obtain ⟨v1, v2⟩ := inv_del hi hem hj2 hk d2 (by rw [hid]; exact d3)
    obtain ⟨i, hi1, hi2⟩ := find_idx hf
    have her : (l.map entA).eraseIdx i = (dropId l id).map entA := by rw [eraseIdx_map', eraseIdx_drop hi.n1 hi2, hid]
    refine bceq (fun hz => ?_) (fun hz => ?_)
    · have hn0 : ns' = [] := List.eq_nil_of_length_eq_zero (by omega)
      refine ADraw.of_sched infoOK (by rfl) (by rfl) sch147_9 (by rfl) ?_
      refine optK_intro (o := (a.setObj g'.b _).obj p) _ mid.hp ?_
      refine ⟨aeff_delete rfl rfl rfl rfl (it := ti165) (ik := ti169) rfl rfl rfl mid.hi rfl (qG (cellP e.2).1 (cellP e.2).2) (fun e he => ?_) ⟨(by repeat (first | exact trivial | refine ⟨rfl, ?_⟩ | refine ⟨optR (optR (optR (optK_intro _ (setObj_self _ _ _) rfl))), ?_⟩)), ?_⟩, trivial⟩
      · obtain ⟨e, _, rfl⟩ := List.mem_map.1 he
        rfl
      have m1 := mid.setI (G' := G.eraseIdx j) (bs2.eraseIdx j) c2 (fun g1 h1 => .inl ?_) (mid.nd.sublist ((List.eraseIdx_sublist ..).map _))
      rotate_left
      · obtain ⟨q1, q2⟩ := (mem_erase_key (f := Grp.key) hi.n2 hj2).1 h1
        refine ⟨q1, fun e => q2 ?_⟩
        obtain ⟨i1, hi1⟩ := List.mem_iff_getElem?.1 q1
        have := nodup_idx (f := fun g : Grp => g.b) ha.nd hi1 hj2 e
        subst this
        rw [hj2] at hi1
        cases hi1; rfl
      have e1 : mapDel (G.map entG) bs2 c2 (qG (cellP e.2).1 (cellP e.2).2) = .map ((G.eraseIdx j).map entG) (bs2.eraseIdx j) c2 := by
        unfold mapDel
        rw [findIdxG, hj1]
        simp only [eraseIdx_map']
      rw [e1]
      refine optK_intro _ m1.hp ?_
      refine aeff_delete rfl rfl rfl rfl (it := ti164) (ik := ti3) rfl rfl rfl m1.ha rfl (qA id) (fun e he => ?_) ?_
      · obtain ⟨e, _, rfl⟩ := List.mem_map.1 he
        rfl
      have e2 : mapDel (l.map entA) bs1 c1 (qA id) = .map ((dropId l id).map entA) (bs1.eraseIdx i) c1 := by
        unfold mapDel
        rw [findIdxA, hi1]
        simp only [her]
      rw [e2]
      have m2 := m1.setA (dropId l id) (bs1.eraseIdx i) c1
      rw [hid] at v1
      exact ret (h _ ⟨ma, mi, _, _, _, _, _, m2, v1 hn0⟩)
    · have hn0 : ns' ≠ [] := fun e => by rw [e] at hz; exact hz rfl
      refine ADraw.of_sched infoOK (by rfl) (by rfl) sch147_10 (by rfl) ?_
      refine optK_intro (o := (a.setObj g'.b _).obj p) _ mid.hp ?_
      refine ⟨aeff_update (.inl rfl) rfl (it := ti165) (ik := ti169) rfl rfl rfl mid.hi rfl rfl (qG (cellP e.2).1 (cellP e.2).2) (fun e he => ?_) (fun e1 he hq => ?_) ⟨(by repeat (first | exact trivial | refine ⟨rfl, ?_⟩ | refine ⟨optR (optR (optR (optK_intro _ (setObj_self _ _ _) rfl))), ?_⟩)), ?_⟩, trivial⟩
      · obtain ⟨e, _, rfl⟩ := List.mem_map.1 he
        rfl
      · obtain ⟨g1, _, rfl⟩ := List.mem_map.1 he
        have := (atKey_iff (k := cellP e.2) (g := g1)).1 hq
        show AV.agg [int g1.x, int g1.y] = _
        rw [← this]; rfl
      let g2 : Grp := ⟨g'.x, g'.y, ns', g'.b, g'.cap, List.replicate 1 (aI 0) ++ g'.L⟩
      have e1 : mapPut (G.map entG) bs2 c2 (qG (cellP e.2).1 (cellP e.2).2) (.agg [int (cellP e.2).1, int (cellP e.2).2]) (.s (.slice (some ⟨g'.b, 0, none⟩) ns'.length g'.cap)) = .map ((G.set j g2).map entG) bs2 c2 := by
        unfold mapPut
        rw [findIdxG, hj1, List.map_set]
        simp only
        congr 2
        show _ = (AV.agg [int g'.x, int g'.y], _)
        rw [← hk]; rfl
      have m1 := mid.setI (G' := G.set j g2) bs2 c2 (fun g1 h1 => ?_) (by rw [map_set_same (fun g : Grp => g.b) (g' := g2) hj2 rfl]; exact mid.nd)
      rotate_left
      · rcases (mem_set_key (f := fun g : Grp => g.b) ha.nd hj2).1 h1 with rfl | ⟨q1, q2⟩
        · refine .inr ⟨setObj_self _ _ _, ⟨?_, ?_, k2.2.2⟩, k3⟩
          · show ns'.length ≤ g'.cap
            have := k2.1; omega
          · show g'.cap ≤ ns'.length + (List.replicate 1 (aI 0) ++ g'.L).length
            have := k2.2.1
            simp; omega
        · exact .inl ⟨q1, q2⟩
      rw [← e1] at m1
      refine optK_intro _ m1.hp ?_
      refine aeff_delete rfl rfl rfl rfl (it := ti164) (ik := ti3) rfl rfl rfl m1.ha rfl (qA id) (fun e he => ?_) ?_
      · obtain ⟨e, _, rfl⟩ := List.mem_map.1 he
        rfl
      have e2 : mapDel (l.map entA) bs1 c1 (qA id) = .map ((dropId l id).map entA) (bs1.eraseIdx i) c1 := by
        unfold mapDel
        rw [findIdxA, hi1]
        simp only [her]
      rw [e2]
      have m2 := m1.setA (dropId l id) (bs1.eraseIdx i) c1
      rw [hid] at v2
      exact ret (h _ ⟨ma, mi, _, _, _, _, _, m2, v2 hn0 g2 rfl rfl⟩)
end Go.Proofs
namespace Go.Proofs
open Go Go.V
set_option linter.unusedVariables false
theorem dropId_no {l : List Ent} {id : Int} : ∀ e ∈ dropId l id, e.1 ≠ id := fun e he => (mem_dropId.1 he).2
theorem dropId_len (l : List Ent) (id : Int) : (dropId l id).length ≤ l.length := List.length_filter_le _ _
set_option maxHeartbeats 1000000 in
theorem cellsPut_spec {a : Store} {p : Nat} {l : List Ent} (hc : CellsOf a p l) (hl : l.length ≤ 1000000000) (hok : ∀ e ∈ l, e.2.ok) (id : Int) (pos : Vc) (hpos : pos.ok) (R : AV → Store → Prop)
    (h : ∀ a', CellsOf a' p (dropId l id ++ [(id, pos)]) → R (.tup []) a') : ACalls Tryz.prog 108 [.s (.pointer (some ⟨p, 0, none⟩)), int id, .agg (vecC pos)] a R := by
  refine ACalls.of_body (c := cfg 46 [38, 1000038] []) infoOK Tryz.func108 (by rfl) (by rfl) (by rfl) (by rfl) ?_
  refine cellsRemove_spec hc hl hok id _ (fun a1 hc1 => ?_)
  obtain ⟨ma, mi, bs1, c1, G, bs2, c2, ha, hi⟩ := hc1
  refine of_spec pos hpos _ _ ?_
  obtain ⟨cur, ns, e1, e2, e3, e4, e5, e6⟩ := put_group (pos := pos) ha hi dropId_no
  have hnl : ns.length ≤ 1000000000 := by
    rcases e4 with rfl | ⟨g, hg, rfl⟩
    · simp
    · have h1 := cut_len hi g hg
      have h2 := dropId_len l id
      omega
  have hle := count_le id ns
  refine ADraw.of_sched infoOK (by rfl) (by rfl) sch108_3 (by rfl) ?_
  refine optK_intro (o := a1.obj p) _ ha.hp ?_
  refine ⟨aeff_lookup rfl (it := ti165) (ie := ti36) (ik := ti169) rfl rfl rfl rfl ha.hi rfl (qG (cellP pos).1 (cellP pos).2) (fun e he => ?_) ⟨(by repeat (first | exact trivial | refine ⟨rfl, ?_⟩ | refine ⟨optR (optR (optR (optK_intro _ (setObj_self _ _ _) rfl))), ?_⟩)), ?_⟩, trivial⟩
  · obtain ⟨e, _, rfl⟩ := List.mem_map.1 he
    rfl
  rw [findG, show zeroAV ti36 = .s (.slice none 0 0) from rfl, e1]
  refine ⟨bsearch_spec e2 id (by omega) (sort_le e3) _ ⟨(by repeat (first | exact trivial | refine ⟨rfl, ?_⟩ | refine ⟨optR (optR (optR (optK_intro _ (setObj_self _ _ _) rfl))), ?_⟩)), ?_⟩, trivial⟩
  refine ⟨⟨(by repeat (first | exact trivial | refine ⟨rfl, ?_⟩ | refine ⟨optR (optR (optR (optK_intro _ (setObj_self _ _ _) rfl))), ?_⟩)), ?_⟩, trivial⟩
  refine ⟨⟨(by repeat (first | exact trivial | refine ⟨rfl, ?_⟩ | refine ⟨optR (optR (optR (optK_intro _ (setObj_self _ _ _) rfl))), ?_⟩)), ?_⟩, trivial⟩
  refine ADraw.of_sched infoOK (by rfl) (by rfl) sch108_4 (by rfl) ?_
  refine optK_intro (o := a1.obj p) _ ha.hp ?_
  refine optK_intro (o := a1.obj p) _ ha.hp ?_
  refine ⟨aeff_lookup rfl (it := ti165) (ie := ti36) (ik := ti169) rfl rfl rfl rfl ha.hi rfl (qG (cellP pos).1 (cellP pos).2) (fun e he => ?_) ⟨?_, ?_⟩, ?_⟩
  · obtain ⟨e, _, rfl⟩ := List.mem_map.1 he
    rfl
  · repeat (first | exact trivial | refine ⟨rfl, ?_⟩ | refine ⟨optK_intro (o := a1.obj p) _ ha.hp rfl, ?_⟩)
  · rw [findG, show zeroAV ti36 = .s (.slice none 0 0) from rfl, e1]
    refine ⟨⟨by decide, fun vb hvb => ?_⟩, trivial⟩
    have hp1 := (ha.fresh (.cells [aI id]) hvb).hp
    refine ⟨?_, ?_⟩
    · repeat (first | exact trivial | refine ⟨rfl, ?_⟩ | refine ⟨optK_intro (o := (a1.setObj vb (.cells [aI id])).obj p) _ hp1 rfl, ?_⟩)
    refine ⟨insert_spec (e2.fresh _ hvb) id _ hle (setObj_self _ _ _) (fun b cap hc he => e5 b cap hc (he ▸ hvb.1)) (by omega) _ (fun b cap L q1 q2 q3 q4 => ?_), trivial⟩
    obtain ⟨w1, w2, G', bs2', c2', w3, w4, w5⟩ := e6 vb _ b cap L hvb q1 q2 q3 q4
    refine ⟨?_, ?_⟩
    · repeat (first | exact trivial | refine ⟨rfl, ?_⟩ | refine ⟨optK_intro (o := Store.obj (Store.setObj _ b _) p) _ w2 rfl, ?_⟩)
    refine ⟨aeff_update (.inl rfl) rfl (it := ti165) (ik := ti169) rfl rfl rfl w1 rfl rfl (qG (cellP pos).1 (cellP pos).2) (fun e he => ?_) (fun e1 he hq => ?_) ⟨(by repeat (first | exact trivial | refine ⟨rfl, ?_⟩ | refine ⟨optR (optR (optR (optK_intro _ (setObj_self _ _ _) rfl))), ?_⟩)), ?_⟩, trivial⟩
    · obtain ⟨e, _, rfl⟩ := List.mem_map.1 he
      rfl
    · obtain ⟨g1, _, rfl⟩ := List.mem_map.1 he
      have := (atKey_iff (k := cellP pos) (g := g1)).1 hq
      show AV.agg [int g1.x, int g1.y] = _
      rw [← this]; rfl
    rw [w3]
    refine ADraw.of_sched infoOK (by rfl) (by rfl) sch108_5 (by rfl) ?_
    refine optK_intro (o := Store.obj (Store.setObj _ mi _) p) _ w4.hp ?_
    refine ⟨aeff_update (.inl rfl) rfl (it := ti164) (ik := ti3) rfl rfl rfl w4.ha rfl rfl (qA id) (fun e he => ?_) (fun e1 he hq => ?_) ⟨(by repeat (first | exact trivial | refine ⟨rfl, ?_⟩ | refine ⟨optR (optR (optR (optK_intro _ (setObj_self _ _ _) rfl))), ?_⟩)), ?_⟩, trivial⟩
    · obtain ⟨e, _, rfl⟩ := List.mem_map.1 he
      rfl
    · obtain ⟨g1, hg1, rfl⟩ := List.mem_map.1 he
      have : id = g1.1 := by simpa [qA, entA, int] using hq
      exact absurd this.symm (dropId_no g1 hg1)
    have e7 : mapPut ((dropId l id).map entA) bs1 c1 (qA id) (int id) (.agg (vecC pos)) = .map ((dropId l id ++ [(id, pos)]).map entA) (bs1 ++ [c1]) (c1 + 1) := by
      unfold mapPut
      have : (dropId l id).findIdx? (atId id) = none := by
        rw [List.findIdx?_eq_none_iff]
        intro e he
        have := dropId_no e he
        simp [atId]
        exact fun h => this h.symm
      rw [findIdxA, this, List.map_append]
      rfl
    have w6 := w4.setA (dropId l id ++ [(id, pos)]) (bs1 ++ [c1]) (c1 + 1)
    rw [← e7] at w6
    exact ret (h _ ⟨ma, mi, _, _, G', _, _, w6, w5⟩)
  · refine ⟨⟨by decide, fun vb hvb => ?_⟩, trivial⟩
    have ha1 := ha.fresh (.cells [aI id]) hvb
    have hp1 := ha1.hp
    refine ⟨?_, ?_⟩
    · repeat (first | exact trivial | refine ⟨rfl, ?_⟩ | refine ⟨optK_intro (o := (a1.setObj vb (.cells [aI id])).obj p) _ hp1 rfl, ?_⟩)
    refine ⟨aeff_lookup rfl (it := ti165) (ie := ti36) (ik := ti169) rfl rfl rfl rfl ha1.hi rfl (qG (cellP pos).1 (cellP pos).2) (fun e he => ?_) ⟨?_, ?_⟩, trivial⟩
    · obtain ⟨e, _, rfl⟩ := List.mem_map.1 he
      rfl
    · repeat (first | exact trivial | refine ⟨rfl, ?_⟩ | refine ⟨optK_intro (o := (a1.setObj vb (.cells [aI id])).obj p) _ hp1 rfl, ?_⟩)
    rw [findG, show zeroAV ti36 = .s (.slice none 0 0) from rfl, e1]
    refine ⟨insert_spec (e2.fresh _ hvb) id _ hle (setObj_self _ _ _) (fun b cap hc he => e5 b cap hc (he ▸ hvb.1)) (by omega) _ (fun b cap L q1 q2 q3 q4 => ?_), trivial⟩
    obtain ⟨w1, w2, G', bs2', c2', w3, w4, w5⟩ := e6 vb _ b cap L hvb q1 q2 q3 q4
    refine ⟨?_, ?_⟩
    · repeat (first | exact trivial | refine ⟨rfl, ?_⟩ | refine ⟨optK_intro (o := Store.obj (Store.setObj _ b _) p) _ w2 rfl, ?_⟩)
    refine ⟨aeff_update (.inl rfl) rfl (it := ti165) (ik := ti169) rfl rfl rfl w1 rfl rfl (qG (cellP pos).1 (cellP pos).2) (fun e he => ?_) (fun e1 he hq => ?_) ⟨(by repeat (first | exact trivial | refine ⟨rfl, ?_⟩ | refine ⟨optR (optR (optR (optK_intro _ (setObj_self _ _ _) rfl))), ?_⟩)), ?_⟩, trivial⟩
    · obtain ⟨e, _, rfl⟩ := List.mem_map.1 he
      rfl
    · obtain ⟨g1, _, rfl⟩ := List.mem_map.1 he
      have := (atKey_iff (k := cellP pos) (g := g1)).1 hq
      show AV.agg [int g1.x, int g1.y] = _
      rw [← this]; rfl
    rw [w3]
    refine ADraw.of_sched infoOK (by rfl) (by rfl) sch108_5 (by rfl) ?_
    refine optK_intro (o := Store.obj (Store.setObj _ mi _) p) _ w4.hp ?_
    refine ⟨aeff_update (.inl rfl) rfl (it := ti164) (ik := ti3) rfl rfl rfl w4.ha rfl rfl (qA id) (fun e he => ?_) (fun e1 he hq => ?_) ⟨(by repeat (first | exact trivial | refine ⟨rfl, ?_⟩ | refine ⟨optR (optR (optR (optK_intro _ (setObj_self _ _ _) rfl))), ?_⟩)), ?_⟩, trivial⟩
    · obtain ⟨e, _, rfl⟩ := List.mem_map.1 he
      rfl
    · obtain ⟨g1, hg1, rfl⟩ := List.mem_map.1 he
      have : id = g1.1 := by simpa [qA, entA, int] using hq
      exact absurd this.symm (dropId_no g1 hg1)
    have e7 : mapPut ((dropId l id).map entA) bs1 c1 (qA id) (int id) (.agg (vecC pos)) = .map ((dropId l id ++ [(id, pos)]).map entA) (bs1 ++ [c1]) (c1 + 1) := by
      unfold mapPut
      have : (dropId l id).findIdx? (atId id) = none := by
        rw [List.findIdx?_eq_none_iff]
        intro e he
        have := dropId_no e he
        simp [atId]
        exact fun h => this h.symm
      rw [findIdxA, this, List.map_append]
      rfl
    have w6 := w4.setA (dropId l id ++ [(id, pos)]) (bs1 ++ [c1]) (c1 + 1)
    rw [← e7] at w6
    exact ret (h _ ⟨ma, mi, _, _, G', _, _, w6, w5⟩)
end Go.Proofs
namespace Go.Proofs
open Go Go.V
set_option linter.unusedVariables false
def ptr (b : Nat) : AV := .s (.pointer (some ⟨b, 0, none⟩))
set_option maxHeartbeats 1000000 in
theorem take_spec {F N : Store} (hd : Disj F N) {p : Nat} {l : List Ent} (hc : CellsOf F p l) {b3 b4 b5 b6 : Nat} {q : Vc} {r : Int} {v : AV} {acc : List Int} (hN : NearAt N b3 b4 b5 b6 p q r v acc) (hq : q.ok) (hr : r ≤ 9223372036854775807)
    {e : Ent} (he : l.find? (atId e.1) = some e) (hok : e.2.ok) (hlen : acc.length ≤ 1000000000000) (R : AV → Store → Prop)
    (h : ∀ N' v', Disj F N' → NearAt N' b3 b4 b5 b6 p q r v' (if near q e.2 r then acc ++ [e.1] else acc) → R (.tup []) (F.un N')) :
    ACalls Tryz.prog 192 [int e.1, ptr b4, ptr b3, ptr b5, ptr b6] (F.un N) R := by
  obtain ⟨ma, mi, bs1, c1, G, bs2, c2, ha, hi⟩ := hc
  refine ACalls.of_body (c := cfg 19) infoOK Tryz.func192 (by rfl) (by rfl) (by rfl) (by rfl) ?_
  refine ADraw.of_sched infoOK (by rfl) (by rfl) sch192_0 (by rfl) ?_
  refine optK_intro (o := (F.un N).obj b4) _ (un_r hN.h4) ?_
  refine optK_intro (o := (F.un N).obj b3) _ (un_r hN.h3) ?_
  refine optK_intro (o := (F.un N).obj p) _ (un_l hd ha.hp) ?_
  refine optK_intro (o := (F.un N).obj b5) _ (un_r hN.h5) ?_
  refine ⟨aeff_lookup rfl (it := ti164) (ie := ti38) (ik := ti3) rfl rfl rfl rfl (un_l hd ha.ha) rfl (qA e.1) (fun e he => ?_) ⟨?_, ?_⟩, trivial⟩
  · obtain ⟨e, _, rfl⟩ := List.mem_map.1 he
    rfl
  · repeat (first | exact trivial | refine ⟨rfl, ?_⟩ | refine ⟨optK_intro (o := (F.un N).obj b4) _ (un_r hN.h4) rfl, ?_⟩ | refine ⟨optK_intro (o := (F.un N).obj b5) _ (un_r hN.h5) rfl, ?_⟩)
  rw [findA, he]
  refine ⟨within_vec q e.2 r hq hok hr _ _ ⟨trivial, ?_⟩, trivial⟩
  cases hn : near q e.2 r with
  | false =>
    rw [hn] at h
    exact ret (h N v hd hN)
  | true =>
    rw [hn] at h
    refine optK_intro (o := (F.un N).obj b6) _ (un_r hN.h6) ?_
    refine ⟨by decide, ?_⟩
    refine appInts (ie := ti3) rfl rfl rfl hN.hv.un e.1 hlen (fun b cap L q1 q2 q3 q4 => ?_)
    have q1' : Fresh N b ∨ ∃ c0, v = .s (.slice (some ⟨b, 0, none⟩) acc.length c0) := q1.imp (fun h => (fresh_un h).2) id
    have hN' := hN.app q1' q2 q3 q4
    rw [un_setObj]
    have hd1 : Disj F (N.setObj b (.cells ((acc ++ [e.1]).map aI ++ L))) := by
      rcases q1 with q1 | ⟨c0, q1⟩
      · exact disj_setR hd (fresh_un q1).1
      · rcases hN.hv with ⟨h1, _⟩ | ⟨b', _, _, h1, h2, _⟩
        · rw [h1] at q1; cases q1
        · rw [h1] at q1
          simp at q1
          exact disj_setR' hd (q1.1 ▸ h2)
    have hd2 := disj_setR' (x := .cells [.s (.slice (some ⟨b, 0, none⟩) (acc ++ [e.1]).length cap)]) hd1 (b := b6) (y := .cells [v]) (by
      have hne : b6 ≠ b := by
        rcases q1' with q1 | ⟨c0, q1⟩
        · exact Ne.symm (q1.ne_obj hN.h6)
        · exact Ne.symm (hN.nv b _ _ q1).2.2.2
      rw [setObj_ne hne]; exact hN.h6)
    have h6' : (N.setObj b (.cells ((acc ++ [e.1]).map aI ++ L))).obj b6 = some (.cells [v]) := by
      have hne : b6 ≠ b := by
        rcases q1' with q1 | ⟨c0, q1⟩
        · exact Ne.symm (q1.ne_obj hN.h6)
        · exact Ne.symm (hN.nv b _ _ q1).2.2.2
      rw [setObj_ne hne]; exact hN.h6
    refine storeK_objE (i := ti36) (v := .s (.slice (some ⟨b, 0, none⟩) (acc ++ [e.1]).length cap)) (b := b6) (o := 0) (l := [v]) (st2 := F.un ((N.setObj b (.cells ((acc ++ [e.1]).map aI ++ L))).setObj b6 (.cells [.s (.slice (some ⟨b, 0, none⟩) (acc ++ [e.1]).length cap)]))) rfl rfl rfl (un_r h6') (Nat.le_refl _) ?_ ?_
    · rw [un_setObj]; rfl
    · exact ret (h _ _ hd2 hN')
end Go.Proofs
namespace Go.Proofs
open Go Go.V
set_option linter.unusedVariables false
theorem CellsOf.fresh {F : Store} {p : Nat} {l : List Ent} (h : CellsOf F p l) {b : Nat} (x : AObj) (hb : Fresh F b) : CellsOf (F.setObj b x) p l := by
  obtain ⟨ma, mi, bs1, c1, G, bs2, c2, ha, hi⟩ := h
  exact ⟨ma, mi, bs1, c1, G, bs2, c2, ha.fresh x hb, hi⟩
theorem sort_spec {st : Store} {b cap : Nat} {ns : List Int} {L : List AV} (ho : st.obj b = some (.cells (ns.map aI ++ L))) (hlen : ns.length < 4611686018427387904) (R : AV → Store → Prop)
    (h : R (.tup []) (st.setObj b (.cells ((ns.mergeSort fun x y => decide (x ≤ y)).map aI ++ L)))) : ACalls Tryz.prog 195 [.s (.slice (some ⟨b, 0, none⟩) ns.length cap)] st R :=
  sort_kit Tryz.lays189 Tryz.func195 rfl rfl ho hlen h
theorem sort_nil {st : Store} (R : AV → Store → Prop) (h : R (.tup []) st) : ACalls Tryz.prog 195 [.s (.slice none 0 0)] st R :=
  sort_kit_nil Tryz.lays189 Tryz.func195 rfl rfl h
def takeC (b3 b4 b5 b6 : Nat) : AV := .clos 192 [ptr b4, ptr b3, ptr b5, ptr b6]
set_option maxHeartbeats 2000000 in
theorem cellsNear_spec {F : Store} {p : Nat} {l : List Ent} (hc : CellsOf F p l) (hl : l.length ≤ 1000000000) (hok : ∀ e ∈ l, e.2.ok) {q : Vc} (hq : q.ok) {r : Int} (hr : InI64 r) (R : AV → Store → Prop)
    (h : ∀ F' N v ns, CellsOf F' p l → Disj F' N → Ints N v ns → IsNear l q r ns → R v (F'.un N)) : ACalls Tryz.prog 154 [ptr p, .agg (vecC q), int r] F R := by
  refine ACalls.of_awp (c := cfg 126 [3, 4, 5, 6] []) infoOK Tryz.func154 (by rfl) (by rfl) (by rfl) (by rfl) ?_
  refine AWp.seq (AWp.of_vc infoOK ?_)
  intro b3 hb3 b4 hb4 b5 hb5 b6 hb6
  have n43 : b4 ≠ b3 := fun e => by have := hb4.1; rw [e, setObj_self] at this; cases this
  have n54 : b5 ≠ b4 := fun e => by have := hb5.1; rw [e, setObj_self] at this; cases this
  have n53 : b5 ≠ b3 := fun e => by have := hb5.1; rw [e, setObj_ne (Ne.symm n43), setObj_self] at this; cases this
  have n65 : b6 ≠ b5 := fun e => by have := hb6.1; rw [e, setObj_self] at this; cases this
  have n64 : b6 ≠ b4 := fun e => by have := hb6.1; rw [e, setObj_ne (Ne.symm n54), setObj_self] at this; cases this
  have n63 : b6 ≠ b3 := fun e => by have := hb6.1; rw [e, setObj_ne (Ne.symm n53), setObj_ne (Ne.symm n43), setObj_self] at this; cases this
  have est : (((F.setObj b3 (.cells [ptr p])).setObj b4 (.cells (vecC q))).setObj b5 (.cells [int r])).setObj b6 (.cells [.s (.slice none 0 0)]) =
      F.un ((((Store.empty.setObj b3 (.cells [ptr p])).setObj b4 (.cells (vecC q))).setObj b5 (.cells [int r])).setObj b6 (.cells [.s (.slice none 0 0)])) := by
    rw [← un_setObj, ← un_setObj, ← un_setObj, ← un_setObj, un_empty]
  have f3 : Fresh F b3 := hb3
  have f4 : Fresh F b4 := by have := hb4; rw [← un_empty F, un_setObj] at this; exact (fresh_un this).1
  have f5 : Fresh F b5 := by have := hb5; rw [← un_empty F, un_setObj, un_setObj] at this; exact (fresh_un this).1
  have f6 : Fresh F b6 := by have := hb6; rw [← un_empty F, un_setObj, un_setObj, un_setObj] at this; exact (fresh_un this).1
  have hN0 : NearAt ((((Store.empty.setObj b3 (.cells [ptr p])).setObj b4 (.cells (vecC q))).setObj b5 (.cells [int r])).setObj b6 (.cells [.s (.slice none 0 0)])) b3 b4 b5 b6 p q r (.s (.slice none 0 0)) [] := by
    refine ⟨?_, ?_, ?_, setObj_self _ _ _, .inl ⟨rfl, rfl⟩, Ne.symm n63, Ne.symm n64, Ne.symm n65, fun b n cap e => by cases e⟩
    · rw [setObj_ne (Ne.symm n63), setObj_ne (Ne.symm n53), setObj_ne (Ne.symm n43)]; exact setObj_self _ _ _
    · rw [setObj_ne (Ne.symm n64), setObj_ne (Ne.symm n54)]; exact setObj_self _ _ _
    · rw [setObj_ne (Ne.symm n65)]; exact setObj_self _ _ _
  have hd0 : Disj F ((((Store.empty.setObj b3 (.cells [ptr p])).setObj b4 (.cells (vecC q))).setObj b5 (.cells [int r])).setObj b6 (.cells [.s (.slice none 0 0)])) :=
    disj_setR (disj_setR (disj_setR (disj_setR (disj_empty F) f3) f4) f5) f6
  show AWp _ _ _ _ _ ((((F.setObj b3 (.cells [ptr p])).setObj b4 (.cells (vecC q))).setObj b5 (.cells [int r])).setObj b6 (.cells [.s (.slice none 0 0)]))
  rw [est]
  generalize ((((Store.empty.setObj b3 (.cells [ptr p])).setObj b4 (.cells (vecC q))).setObj b5 (.cells [int r])).setObj b6 (.cells [.s (.slice none 0 0)])) = N0 at *
  clear est hb3 hb4 hb5 hb6
  refine AWp.seq (AWp.of_vc infoOK ?_)
  refine optK_intro (o := (F.un N0).obj b5) _ (un_r hN0.h5) ?_
  refine bcd (fun c1 => ?_) (fun c1 => ?_)
  · refine storeK_obj (i := ti36) (v := .s (.slice none 0 0)) (b := b6) (o := 0) (l := [.s (.slice none 0 0)]) rfl rfl rfl (un_r hN0.h6) (Nat.le_refl _) ?_
    refine optK_intro (o := Store.obj (Store.setObj _ b6 _) b6) _ (setObj_self _ _ _) ?_
    refine ret ?_
    rw [un_setObj]
    refine h F _ _ [] hc (disj_setR' hd0 hN0.h6) (.inl ⟨rfl, rfl⟩) ⟨List.Pairwise.nil, fun id => ⟨(fun h => (by cases h)), fun ⟨e, _, _, hn⟩ => ?_⟩⟩
    unfold near at hn
    have := (of_decide_eq_true hn).1
    omega
  refine AWp.seq (AWp.of_vc infoOK ?_)
  have hr0 : 0 < r := by omega
  have hr1 : r ≤ 9223372036854775807 := hr.2
  have sub_q1 := fsub_64 q.1 r
  have sub_q2 := fsub_64 q.2 r
  have add_q1 := fadd_64 q.1 r
  have add_q2 := fadd_64 q.2 r
  refine AWp.meet (σ := Unit) ⟨fun _ => [(3, .av (ptr b3)), (4, .av (ptr b4)), (5, .av (ptr b5)), (6, .av (ptr b6)), (7, .av (takeC b3 b4 b5 b6)), (8, .bx 8 0)], fun _ => [(8, [int (cellP (fsub q.1 r, fsub q.2 r)).1, int (cellP (fsub q.1 r, fsub q.2 r)).2])],
    fun _ st' => st' = F.un N0⟩ infoOK ?_ ?_
  · refine ADraw.of_sched infoOK (by rfl) (by rfl) sch154_4 (by rfl) ?_
    refine optK_intro (o := (F.un N0).obj b4) _ (un_r hN0.h4) ?_
    refine optK_intro (o := (F.un N0).obj b5) _ (un_r hN0.h5) ?_
    refine optK_intro (o := (F.un N0).obj b4) _ (un_r hN0.h4) ?_
    refine optK_intro (o := (F.un N0).obj b5) _ (un_r hN0.h5) ?_
    refine ⟨sub_spec q.1 r hq.1 hr _ _ ⟨(by repeat (first | exact trivial | refine ⟨rfl, ?_⟩ | refine ⟨optK_intro (o := (F.un N0).obj b4) _ (un_r hN0.h4) rfl, ?_⟩ | refine ⟨optK_intro (o := (F.un N0).obj b5) _ (un_r hN0.h5) rfl, ?_⟩)), ⟨sub_spec q.2 r hq.2 hr _ _ ⟨(by repeat (first | exact trivial | refine ⟨rfl, ?_⟩ | refine ⟨optK_intro (o := (F.un N0).obj b4) _ (un_r hN0.h4) rfl, ?_⟩ | refine ⟨optK_intro (o := (F.un N0).obj b5) _ (un_r hN0.h5) rfl, ?_⟩)), ⟨of_spec (fsub q.1 r, fsub q.2 r) ⟨sub_q1, sub_q2⟩ _ _ ⟨(by repeat (first | exact trivial | refine ⟨rfl, ?_⟩ | refine ⟨optK_intro (o := (F.un N0).obj b4) _ (un_r hN0.h4) rfl, ?_⟩ | refine ⟨optK_intro (o := (F.un N0).obj b5) _ (un_r hN0.h5) rfl, ?_⟩)), ⟨⟨(by repeat (first | exact trivial | refine ⟨rfl, ?_⟩ | refine ⟨optK_intro (o := (F.un N0).obj b4) _ (un_r hN0.h4) rfl, ?_⟩ | refine ⟨optK_intro (o := (F.un N0).obj b5) _ (un_r hN0.h5) rfl, ?_⟩)), ⟨⟨(by repeat (first | exact trivial | refine ⟨rfl, ?_⟩ | refine ⟨optK_intro (o := (F.un N0).obj b4) _ (un_r hN0.h4) rfl, ?_⟩ | refine ⟨optK_intro (o := (F.un N0).obj b5) _ (un_r hN0.h5) rfl, ?_⟩)), ?_⟩, trivial⟩⟩, trivial⟩⟩, ⟨⟨(by repeat (first | exact trivial | refine ⟨rfl, ?_⟩ | refine ⟨optK_intro (o := (F.un N0).obj b4) _ (un_r hN0.h4) rfl, ?_⟩ | refine ⟨optK_intro (o := (F.un N0).obj b5) _ (un_r hN0.h5) rfl, ?_⟩)), ⟨of_spec (fsub q.1 r, fsub q.2 r) ⟨sub_q1, sub_q2⟩ _ _ ⟨(by repeat (first | exact trivial | refine ⟨rfl, ?_⟩ | refine ⟨optK_intro (o := (F.un N0).obj b4) _ (un_r hN0.h4) rfl, ?_⟩ | refine ⟨optK_intro (o := (F.un N0).obj b5) _ (un_r hN0.h5) rfl, ?_⟩)), ⟨⟨(by repeat (first | exact trivial | refine ⟨rfl, ?_⟩ | refine ⟨optK_intro (o := (F.un N0).obj b4) _ (un_r hN0.h4) rfl, ?_⟩ | refine ⟨optK_intro (o := (F.un N0).obj b5) _ (un_r hN0.h5) rfl, ?_⟩)), ?_⟩, trivial⟩⟩, trivial⟩⟩, trivial⟩⟩⟩, ⟨⟨(by repeat (first | exact trivial | refine ⟨rfl, ?_⟩ | refine ⟨optK_intro (o := (F.un N0).obj b4) _ (un_r hN0.h4) rfl, ?_⟩ | refine ⟨optK_intro (o := (F.un N0).obj b5) _ (un_r hN0.h5) rfl, ?_⟩)), ⟨sub_spec q.2 r hq.2 hr _ _ ⟨(by repeat (first | exact trivial | refine ⟨rfl, ?_⟩ | refine ⟨optK_intro (o := (F.un N0).obj b4) _ (un_r hN0.h4) rfl, ?_⟩ | refine ⟨optK_intro (o := (F.un N0).obj b5) _ (un_r hN0.h5) rfl, ?_⟩)), ⟨of_spec (fsub q.1 r, fsub q.2 r) ⟨sub_q1, sub_q2⟩ _ _ ⟨(by repeat (first | exact trivial | refine ⟨rfl, ?_⟩ | refine ⟨optK_intro (o := (F.un N0).obj b4) _ (un_r hN0.h4) rfl, ?_⟩ | refine ⟨optK_intro (o := (F.un N0).obj b5) _ (un_r hN0.h5) rfl, ?_⟩)), ⟨⟨(by repeat (first | exact trivial | refine ⟨rfl, ?_⟩ | refine ⟨optK_intro (o := (F.un N0).obj b4) _ (un_r hN0.h4) rfl, ?_⟩ | refine ⟨optK_intro (o := (F.un N0).obj b5) _ (un_r hN0.h5) rfl, ?_⟩)), ?_⟩, trivial⟩⟩, trivial⟩⟩, trivial⟩⟩, trivial⟩⟩⟩, ⟨⟨(by repeat (first | exact trivial | refine ⟨rfl, ?_⟩ | refine ⟨optK_intro (o := (F.un N0).obj b4) _ (un_r hN0.h4) rfl, ?_⟩ | refine ⟨optK_intro (o := (F.un N0).obj b5) _ (un_r hN0.h5) rfl, ?_⟩)), ⟨sub_spec q.1 r hq.1 hr _ _ ⟨(by repeat (first | exact trivial | refine ⟨rfl, ?_⟩ | refine ⟨optK_intro (o := (F.un N0).obj b4) _ (un_r hN0.h4) rfl, ?_⟩ | refine ⟨optK_intro (o := (F.un N0).obj b5) _ (un_r hN0.h5) rfl, ?_⟩)), ⟨sub_spec q.2 r hq.2 hr _ _ ⟨(by repeat (first | exact trivial | refine ⟨rfl, ?_⟩ | refine ⟨optK_intro (o := (F.un N0).obj b4) _ (un_r hN0.h4) rfl, ?_⟩ | refine ⟨optK_intro (o := (F.un N0).obj b5) _ (un_r hN0.h5) rfl, ?_⟩)), ⟨of_spec (fsub q.1 r, fsub q.2 r) ⟨sub_q1, sub_q2⟩ _ _ ⟨(by repeat (first | exact trivial | refine ⟨rfl, ?_⟩ | refine ⟨optK_intro (o := (F.un N0).obj b4) _ (un_r hN0.h4) rfl, ?_⟩ | refine ⟨optK_intro (o := (F.un N0).obj b5) _ (un_r hN0.h5) rfl, ?_⟩)), ⟨⟨(by repeat (first | exact trivial | refine ⟨rfl, ?_⟩ | refine ⟨optK_intro (o := (F.un N0).obj b4) _ (un_r hN0.h4) rfl, ?_⟩ | refine ⟨optK_intro (o := (F.un N0).obj b5) _ (un_r hN0.h5) rfl, ?_⟩)), ?_⟩, trivial⟩⟩, trivial⟩⟩, trivial⟩⟩, trivial⟩⟩, trivial⟩⟩
    all_goals exact ⟨(), rfl, ⟨LV.le_refl _, LV.le_refl _, LV.le_refl _, LV.le_refl _, LV.le_refl _, LV.le_refl _, trivial⟩, ⟨rfl, trivial⟩⟩
  rintro _ _ rfl
  refine AWp.meet (σ := Unit) ⟨fun _ => [(3, .av (ptr b3)), (6, .av (ptr b6)), (7, .av (takeC b3 b4 b5 b6)), (8, .bx 8 0), (9, .bx 9 0)], fun _ => [(8, [int (cellP (fsub q.1 r, fsub q.2 r)).1, int (cellP (fsub q.1 r, fsub q.2 r)).2]), (9, [int (cellP (fadd q.1 r, fadd q.2 r)).1, int (cellP (fadd q.1 r, fadd q.2 r)).2])],
    fun _ st' => st' = F.un N0⟩ infoOK ?_ ?_
  · refine ADraw.of_sched infoOK (by rfl) (by rfl) sch154_5 (by rfl) ?_
    refine optK_intro (o := (F.un N0).obj b4) _ (un_r hN0.h4) ?_
    refine optK_intro (o := (F.un N0).obj b5) _ (un_r hN0.h5) ?_
    refine optK_intro (o := (F.un N0).obj b4) _ (un_r hN0.h4) ?_
    refine optK_intro (o := (F.un N0).obj b5) _ (un_r hN0.h5) ?_
    refine ⟨add_spec q.1 r hq.1 hr _ _ ⟨(by repeat (first | exact trivial | refine ⟨rfl, ?_⟩ | refine ⟨optK_intro (o := (F.un N0).obj b4) _ (un_r hN0.h4) rfl, ?_⟩ | refine ⟨optK_intro (o := (F.un N0).obj b5) _ (un_r hN0.h5) rfl, ?_⟩)), ⟨add_spec q.2 r hq.2 hr _ _ ⟨(by repeat (first | exact trivial | refine ⟨rfl, ?_⟩ | refine ⟨optK_intro (o := (F.un N0).obj b4) _ (un_r hN0.h4) rfl, ?_⟩ | refine ⟨optK_intro (o := (F.un N0).obj b5) _ (un_r hN0.h5) rfl, ?_⟩)), ⟨of_spec (fadd q.1 r, fadd q.2 r) ⟨add_q1, add_q2⟩ _ _ ⟨(by repeat (first | exact trivial | refine ⟨rfl, ?_⟩ | refine ⟨optK_intro (o := (F.un N0).obj b4) _ (un_r hN0.h4) rfl, ?_⟩ | refine ⟨optK_intro (o := (F.un N0).obj b5) _ (un_r hN0.h5) rfl, ?_⟩)), ⟨⟨(by repeat (first | exact trivial | refine ⟨rfl, ?_⟩ | refine ⟨optK_intro (o := (F.un N0).obj b4) _ (un_r hN0.h4) rfl, ?_⟩ | refine ⟨optK_intro (o := (F.un N0).obj b5) _ (un_r hN0.h5) rfl, ?_⟩)), ⟨⟨(by repeat (first | exact trivial | refine ⟨rfl, ?_⟩ | refine ⟨optK_intro (o := (F.un N0).obj b4) _ (un_r hN0.h4) rfl, ?_⟩ | refine ⟨optK_intro (o := (F.un N0).obj b5) _ (un_r hN0.h5) rfl, ?_⟩)), ?_⟩, trivial⟩⟩, trivial⟩⟩, ⟨⟨(by repeat (first | exact trivial | refine ⟨rfl, ?_⟩ | refine ⟨optK_intro (o := (F.un N0).obj b4) _ (un_r hN0.h4) rfl, ?_⟩ | refine ⟨optK_intro (o := (F.un N0).obj b5) _ (un_r hN0.h5) rfl, ?_⟩)), ⟨of_spec (fadd q.1 r, fadd q.2 r) ⟨add_q1, add_q2⟩ _ _ ⟨(by repeat (first | exact trivial | refine ⟨rfl, ?_⟩ | refine ⟨optK_intro (o := (F.un N0).obj b4) _ (un_r hN0.h4) rfl, ?_⟩ | refine ⟨optK_intro (o := (F.un N0).obj b5) _ (un_r hN0.h5) rfl, ?_⟩)), ⟨⟨(by repeat (first | exact trivial | refine ⟨rfl, ?_⟩ | refine ⟨optK_intro (o := (F.un N0).obj b4) _ (un_r hN0.h4) rfl, ?_⟩ | refine ⟨optK_intro (o := (F.un N0).obj b5) _ (un_r hN0.h5) rfl, ?_⟩)), ?_⟩, trivial⟩⟩, trivial⟩⟩, trivial⟩⟩⟩, ⟨⟨(by repeat (first | exact trivial | refine ⟨rfl, ?_⟩ | refine ⟨optK_intro (o := (F.un N0).obj b4) _ (un_r hN0.h4) rfl, ?_⟩ | refine ⟨optK_intro (o := (F.un N0).obj b5) _ (un_r hN0.h5) rfl, ?_⟩)), ⟨add_spec q.2 r hq.2 hr _ _ ⟨(by repeat (first | exact trivial | refine ⟨rfl, ?_⟩ | refine ⟨optK_intro (o := (F.un N0).obj b4) _ (un_r hN0.h4) rfl, ?_⟩ | refine ⟨optK_intro (o := (F.un N0).obj b5) _ (un_r hN0.h5) rfl, ?_⟩)), ⟨of_spec (fadd q.1 r, fadd q.2 r) ⟨add_q1, add_q2⟩ _ _ ⟨(by repeat (first | exact trivial | refine ⟨rfl, ?_⟩ | refine ⟨optK_intro (o := (F.un N0).obj b4) _ (un_r hN0.h4) rfl, ?_⟩ | refine ⟨optK_intro (o := (F.un N0).obj b5) _ (un_r hN0.h5) rfl, ?_⟩)), ⟨⟨(by repeat (first | exact trivial | refine ⟨rfl, ?_⟩ | refine ⟨optK_intro (o := (F.un N0).obj b4) _ (un_r hN0.h4) rfl, ?_⟩ | refine ⟨optK_intro (o := (F.un N0).obj b5) _ (un_r hN0.h5) rfl, ?_⟩)), ?_⟩, trivial⟩⟩, trivial⟩⟩, trivial⟩⟩, trivial⟩⟩⟩, ⟨⟨(by repeat (first | exact trivial | refine ⟨rfl, ?_⟩ | refine ⟨optK_intro (o := (F.un N0).obj b4) _ (un_r hN0.h4) rfl, ?_⟩ | refine ⟨optK_intro (o := (F.un N0).obj b5) _ (un_r hN0.h5) rfl, ?_⟩)), ⟨add_spec q.1 r hq.1 hr _ _ ⟨(by repeat (first | exact trivial | refine ⟨rfl, ?_⟩ | refine ⟨optK_intro (o := (F.un N0).obj b4) _ (un_r hN0.h4) rfl, ?_⟩ | refine ⟨optK_intro (o := (F.un N0).obj b5) _ (un_r hN0.h5) rfl, ?_⟩)), ⟨add_spec q.2 r hq.2 hr _ _ ⟨(by repeat (first | exact trivial | refine ⟨rfl, ?_⟩ | refine ⟨optK_intro (o := (F.un N0).obj b4) _ (un_r hN0.h4) rfl, ?_⟩ | refine ⟨optK_intro (o := (F.un N0).obj b5) _ (un_r hN0.h5) rfl, ?_⟩)), ⟨of_spec (fadd q.1 r, fadd q.2 r) ⟨add_q1, add_q2⟩ _ _ ⟨(by repeat (first | exact trivial | refine ⟨rfl, ?_⟩ | refine ⟨optK_intro (o := (F.un N0).obj b4) _ (un_r hN0.h4) rfl, ?_⟩ | refine ⟨optK_intro (o := (F.un N0).obj b5) _ (un_r hN0.h5) rfl, ?_⟩)), ⟨⟨(by repeat (first | exact trivial | refine ⟨rfl, ?_⟩ | refine ⟨optK_intro (o := (F.un N0).obj b4) _ (un_r hN0.h4) rfl, ?_⟩ | refine ⟨optK_intro (o := (F.un N0).obj b5) _ (un_r hN0.h5) rfl, ?_⟩)), ?_⟩, trivial⟩⟩, trivial⟩⟩, trivial⟩⟩, trivial⟩⟩, trivial⟩⟩
    all_goals exact ⟨(), rfl, ⟨LV.le_refl _, LV.le_refl _, LV.le_refl _, LV.le_refl _, LV.le_refl _, trivial⟩, ⟨rfl, rfl, trivial⟩⟩
  rintro _ _ rfl
  have hab := rect_le hq hr0 hr1
  have hA := cellP_b (p := (fsub q.1 r, fsub q.2 r)) ⟨fsub_64 _ _, fsub_64 _ _⟩
  have hB := cellP_b (p := (fadd q.1 r, fadd q.2 r)) ⟨fadd_64 _ _, fadd_64 _ _⟩
  have hrect : ∀ e ∈ l, near q e.2 r = true → _ := fun e he hn => near_rect hq (hok e he) hr0 hr1 hn
  generalize cellP (fsub q.1 r, fsub q.2 r) = A0 at *
  generalize cellP (fadd q.1 r, fadd q.2 r) = B0 at *
  obtain ⟨ax, ay⟩ := A0
  obtain ⟨bx, by'⟩ := B0
  dsimp only at hab hA hB hrect ⊢
  refine AWp.meetA (σ := Store × Store × AV × List Int) ⟨fun _ => [(6, .av (ptr b6))], fun _ => [], fun s st' => st' = s.1.un s.2.1 ∧ Disj s.1 s.2.1 ∧ CellsOf s.1 p l ∧ NearAt s.2.1 b3 b4 b5 b6 p q r s.2.2.1 s.2.2.2 ∧ NearIn l q r (fun _ => True) s.2.2.2⟩ ?_ ?_
  · obtain ⟨ma, mi, bs1, cl1, G, bs2, cl2, ha, hi⟩ := hc
    have hgl : (G.map entG).length ≤ l.length := by rw [List.length_map]; exact groups_len hi
    have slots : ∀ b : Bool, LV.le (.av (bool b)) (.av (bool b)) := fun b => LV.le_refl _
    refine AWp.seq (AWp.of_vc infoOK ?_)
    refine optK_intro (o := (F.un N0).obj b3) _ (un_r hN0.h3) ?_
    refine optK_intro (o := (F.un N0).obj p) _ (un_l hd0 ha.hp) ?_
    refine optK_intro (o := (F.un N0).obj mi) _ (un_l hd0 ha.hi) ?_
    refine ⟨⟨by omega, by omega⟩, ?_⟩
    refine AWp.meet (σ := Bool) ⟨fun b => [(3, .av (ptr b3)), (6, .av (ptr b6)), (7, .av (takeC b3 b4 b5 b6)), (8, .bx 8 0), (9, .bx 9 0), (77, .av (bool b))], fun _ => [(8, [int ax, int ay]), (9, [int bx, int by'])],
      fun b st' => st' = F.un N0⟩ infoOK ?_ ?_
    · refine ⟨⟨by omega, by omega⟩, ?_⟩
      refine bcd (fun d1 => ?_) (fun d1 => ?_)
      · exact ⟨true, rfl, ⟨LV.le_refl _, LV.le_refl _, LV.le_refl _, LV.le_refl _, LV.le_refl _, LV.le_refl _, trivial⟩, ⟨rfl, rfl, trivial⟩⟩
      refine ⟨⟨by omega, by omega⟩, ?_⟩
      refine bcd (fun d2 => ?_) (fun d2 => ?_)
      · exact ⟨true, rfl, ⟨LV.le_refl _, LV.le_refl _, LV.le_refl _, LV.le_refl _, LV.le_refl _, LV.le_refl _, trivial⟩, ⟨rfl, rfl, trivial⟩⟩
      have m1 : (bx - ax + 1) * (by' - ay + 1) ≤ 1000000002 * 1000000002 := Int.mul_le_mul (by omega) (by omega) (by omega) (by decide)
      have m0 : 0 ≤ (bx - ax + 1) * (by' - ay + 1) := Int.mul_nonneg (by omega) (by omega)
      refine ⟨⟨by omega, by omega⟩, ?_⟩
      refine ⟨⟨by omega, by omega⟩, ?_⟩
      refine ⟨⟨by omega, by omega⟩, ?_⟩
      refine ⟨⟨by omega, by omega⟩, ?_⟩
      refine ⟨⟨by omega, by omega⟩, ?_⟩
      exact ⟨_, rfl, ⟨LV.le_refl _, LV.le_refl _, LV.le_refl _, LV.le_refl _, LV.le_refl _, LV.le_refl _, trivial⟩, ⟨rfl, rfl, trivial⟩⟩
    rintro b _ rfl
    refine AWp.of_vc infoOK ?_
    cases b with
    | true =>
      refine optK_intro (o := (F.un N0).obj b3) _ (un_r hN0.h3) ?_
      refine optK_intro (o := (F.un N0).obj p) _ (un_l hd0 ha.hp) ?_
      refine aeff_stamps (un_l hd0 ha.ha) (fun hst => ?_)
      refine aeff_range rfl (it := ti164) rfl rfl (un_l hd0 ha.ha) (fun bi hbi => ?_)
      have fbi := fresh_un hbi
      have nbi : ¬ N0.has bi := fresh_iff.1 fbi.2
      rw [un_setObjL nbi]
      refine AWp.loop (σ := List Nat × Store × AV × List Int) ⟨fun _ => [(6, .av (ptr b6)), (7, .av (takeC b3 b4 b5 b6)), (82, .av (ptr bi))], fun _ => [],
        fun s st' => st' = (F.setObj bi (.iter ma cl1 s.1 cl1)).un s.2.1 ∧ Disj (F.setObj bi (.iter ma cl1 s.1 cl1)) s.2.1 ∧ NearAt s.2.1 b3 b4 b5 b6 p q r s.2.2.1 s.2.2.2 ∧ s.1.Nodup ∧ (∀ t ∈ s.1, t ∈ bs1) ∧
          NearIn l q r (fun e => ∃ (i t : Nat), l[i]? = some e ∧ bs1[i]? = some t ∧ t ∈ s.1) s.2.2.2, fun s => bs1.length - s.1.length⟩ infoOK ?_ ?_
      · exact ⟨([], N0, _, []), trivial, ⟨rfl, disj_setL hd0 nbi, hN0, List.nodup_nil, (fun t ht => (by cases ht)), List.nodup_nil, fun id => ⟨(fun h => (by cases h)), fun ⟨e, _, _, _, i, t, _, _, h⟩ => (by cases h)⟩⟩, ⟨LV.le_refl _, LV.le_refl _, LV.le_refl _, trivial⟩, trivial⟩
      rintro ⟨seen, N, v, acc⟩ st' ⟨rfl, hd, hN, hs1, hs2, hacc⟩
      dsimp only at hd hN hs1 hs2 hacc ⊢
      have hF1 : CellsAt (F.setObj bi (.iter ma cl1 seen cl1)) p ma mi l bs1 cl1 G bs2 cl2 := ha.fresh _ fbi.1
      refine aeff_next rfl (un_l hd (setObj_self _ _ _)) (un_l hd hF1.ha) (fun hall => ?_) (fun i e t he ht hnt => ?_)
      · refine ⟨(F.setObj bi (.iter ma cl1 seen cl1), N, v, acc), ⟨rfl, hd, ⟨ma, mi, _, _, _, _, _, hF1, hi⟩, hN, ?_⟩, ⟨LV.le_refl _, trivial⟩, trivial⟩
        refine hacc.congr fun e he _ => ⟨fun _ => trivial, fun _ => ?_⟩
        obtain ⟨i, hi'⟩ := List.mem_iff_getElem?.1 he
        have hlt : i < bs1.length := by
          have h1 := hst.len
          have h2 := (List.getElem?_eq_some_iff.1 hi').1
          rw [List.length_map] at h1
          omega
        exact ⟨i, bs1[i], hi', List.getElem?_eq_getElem hlt, hall _ (List.getElem_mem hlt)⟩
      · obtain ⟨e0, he0, rfl⟩ : ∃ e0, l[i]? = some e0 ∧ entA e0 = e := by
          rw [List.getElem?_map] at he
          cases hx : l[i]? with
          | none => rw [hx] at he; cases he
          | some e0 => rw [hx] at he; simp at he; exact ⟨e0, rfl, he⟩
        have hem := List.mem_of_getElem? he0
        obtain ⟨hd', nb⟩ := disj_setL' (y := .iter ma cl1 (seen ++ [t]) cl1) hd
        have hF2 : CellsAt (F.setObj bi (.iter ma cl1 (seen ++ [t]) cl1)) p ma mi l bs1 cl1 G bs2 cl2 := ha.fresh _ fbi.1
        rw [un_setObjL nb, setObj_setObj]
        refine aeff_entry rfl (un_l hd' (setObj_self _ _ _)) (un_l hd' hF2.ha) he ht ?_
        refine take_spec hd' ⟨ma, mi, _, _, _, _, _, hF2, hi⟩ hN hq hr1 (find_self hi.n1 hem) (hok _ hem) (by have := hacc.len; omega) _ (fun N' v' hdd hN' => ?_)
        refine ⟨(seen ++ [t], N', v', _), ?_, ⟨rfl, hdd, hN', ?_, ?_, ?_⟩, ⟨LV.le_refl _, LV.le_refl _, LV.le_refl _, trivial⟩, trivial⟩
        · have h1 : (seen ++ [t]).Nodup := by
            rw [List.nodup_append]
            exact ⟨hs1, by simp, fun a ha b hb => by simp at hb; subst hb; exact fun e => hnt (e ▸ ha)⟩
          have h2 := List.Nodup.length_le_of_subset (l₂ := bs1) h1 (fun x hx => by
            rcases List.mem_append.1 hx with hx | hx
            · exact hs2 x hx
            · simp at hx; subst hx; exact List.mem_of_getElem? ht)
          rw [List.length_append] at h2
          show bs1.length - (seen ++ [t]).length < bs1.length - seen.length
          rw [List.length_append]
          simp at h2 ⊢
          omega
        · show (seen ++ [t]).Nodup
          rw [List.nodup_append]
          exact ⟨hs1, by simp, fun a ha b hb => by simp at hb; subst hb; exact fun e => hnt (e ▸ ha)⟩
        · intro x hx
          rcases List.mem_append.1 hx with hx | hx
          · exact hs2 x hx
          · simp at hx; subst hx; exact List.mem_of_getElem? ht
        · refine (hacc.step hi.n1 hem (fun hh => ?_)).congr fun e' he' _ => ⟨fun hh => ?_, fun hh => ?_⟩
          · obtain ⟨i', t', h1, h2, h3⟩ := hh
            have := nodup_idx (f := fun e : Ent => e.1) hi.n1 h1 he0 rfl
            subst this
            rw [ht] at h2
            cases h2
            exact hnt h3
          · rcases hh with ⟨i', t', h1, h2, h3⟩ | rfl
            · exact ⟨i', t', h1, h2, List.mem_append_left _ h3⟩
            · exact ⟨i, t, he0, ht, by simp⟩
          · obtain ⟨i', t', h1, h2, h3⟩ := hh
            rcases List.mem_append.1 h3 with h3 | h3
            · exact .inl ⟨i', t', h1, h2, h3⟩
            · simp at h3
              subst h3
              right
              have hinc := hst.inc
              have : i' = i := by
                have hn : (bs1.map id).Nodup := by
                  rw [List.map_id]
                  exact hinc.imp fun h e => by omega
                exact nodup_idx (f := id) hn h2 ht rfl
              subst this
              rw [he0] at h1
              cases h1; rfl
    | false =>
      refine AWp.loop (σ := Int × Store × AV × List Int) ⟨fun s => [(3, .av (ptr b3)), (6, .av (ptr b6)), (7, .av (takeC b3 b4 b5 b6)), (8, .bx 8 0), (9, .bx 9 0), (12, .av (int s.1))], fun _ => [(8, [int ax, int ay]), (9, [int bx, int by'])],
        fun s st' => st' = F.un s.2.1 ∧ Disj F s.2.1 ∧ NearAt s.2.1 b3 b4 b5 b6 p q r s.2.2.1 s.2.2.2 ∧ (ax ≤ s.1 ∧ s.1 ≤ bx + 1) ∧ NearIn l q r (fun e => (cellP e.2).1 < s.1) s.2.2.2, fun s => (bx + 1 - s.1).toNat⟩ infoOK ?_ ?_
      · refine ⟨(ax, N0, _, []), trivial, ⟨rfl, hd0, hN0, ⟨Int.le_refl _, by omega⟩, List.nodup_nil, fun id => ⟨(fun h => (by cases h)), fun ⟨e, he, _, hn, h⟩ => ?_⟩⟩, ⟨LV.le_refl _, LV.le_refl _, LV.le_refl _, LV.le_refl _, LV.le_refl _, LV.le_refl _, trivial⟩, ⟨rfl, rfl, trivial⟩⟩
        have := hrect e he hn
        dsimp only at h
        omega
      rintro ⟨x, N, v, acc⟩ st' ⟨rfl, hd, hN, hx, hacc⟩
      dsimp only at hd hN hx hacc ⊢
      refine bcd (fun x1 => ?_) (fun x1 => ?_)
      rotate_left
      · refine ⟨(F, N, v, acc), ⟨rfl, hd, ⟨ma, mi, _, _, _, _, _, ha, hi⟩, hN, ?_⟩, ⟨LV.le_refl _, trivial⟩, trivial⟩
        refine hacc.congr fun e he hn => ⟨fun _ => trivial, fun _ => ?_⟩
        have := hrect e he hn
        omega
      refine AWp.loop (σ := Int × Store × AV × List Int) ⟨fun s => [(3, .av (ptr b3)), (6, .av (ptr b6)), (7, .av (takeC b3 b4 b5 b6)), (8, .bx 8 0), (9, .bx 9 0), (12, .av (int x)), (13, .av (int s.1))], fun _ => [(8, [int ax, int ay]), (9, [int bx, int by'])],
        fun s st' => st' = F.un s.2.1 ∧ Disj F s.2.1 ∧ NearAt s.2.1 b3 b4 b5 b6 p q r s.2.2.1 s.2.2.2 ∧ (ay ≤ s.1 ∧ s.1 ≤ by' + 1) ∧ NearIn l q r (fun e => (cellP e.2).1 < x ∨ ((cellP e.2).1 = x ∧ (cellP e.2).2 < s.1)) s.2.2.2, fun s => (by' + 1 - s.1).toNat⟩ infoOK ?_ ?_
      · refine ⟨(ay, N, v, acc), trivial, ⟨rfl, hd, hN, ⟨Int.le_refl _, by omega⟩, hacc.congr fun e he hn => ⟨.inl, fun h => h.elim id fun h => ?_⟩⟩, ⟨LV.le_refl _, LV.le_refl _, LV.le_refl _, LV.le_refl _, LV.le_refl _, LV.le_refl _, LV.le_refl _, trivial⟩, ⟨rfl, rfl, trivial⟩⟩
        have := hrect e he hn
        dsimp only at h
        omega
      clear hN hacc hd
      rintro ⟨y, N, v, acc⟩ st' ⟨rfl, hd, hN, hy, hacc⟩
      dsimp only at hd hN hy hacc ⊢
      refine bcd (fun y1 => ?_) (fun y1 => ?_)
      rotate_left
      · refine ⟨⟨by omega, by omega⟩, ?_⟩
        refine ⟨(x + 1, N, v, acc), ?_, ⟨rfl, hd, hN, by dsimp only; omega, hacc.congr fun e he hn => ?_⟩, ⟨LV.le_refl _, LV.le_refl _, LV.le_refl _, LV.le_refl _, LV.le_refl _, LV.le_refl _, trivial⟩, ⟨rfl, rfl, trivial⟩⟩
        · show (bx + 1 - (x + 1)).toNat < (bx + 1 - x).toNat
          omega
        · have := hrect e he hn
          dsimp only
          omega
      refine optK_intro (o := (F.un N).obj b3) _ (un_r hN.h3) ?_
      refine optK_intro (o := (F.un N).obj p) _ (un_l hd ha.hp) ?_
      refine aeff_lookup rfl (it := ti165) (ie := ti36) (ik := ti169) rfl rfl rfl rfl (un_l hd ha.hi) rfl (qG x y) (fun e he => ?_) ?_
      · obtain ⟨e, _, rfl⟩ := List.mem_map.1 he
        rfl
      rw [findG G (x, y), show zeroAV ti36 = .s (.slice none 0 0) from rfl]
      cases hf : G.find? (atKey (x, y)) with
      | none =>
        refine AWp.loop (σ := Unit) ⟨fun _ => [(3, .av (ptr b3)), (6, .av (ptr b6)), (7, .av (takeC b3 b4 b5 b6)), (8, .bx 8 0), (9, .bx 9 0), (12, .av (int x)), (13, .av (int y)), (114, .av (int 0)), (115, .av (int 0))], fun _ => [(8, [int ax, int ay]), (9, [int bx, int by'])],
          fun _ st' => st' = F.un N, fun _ => 0⟩ infoOK ?_ ?_
        · exact ⟨(), trivial, rfl, ⟨LV.le_refl _, LV.le_refl _, LV.le_refl _, LV.le_refl _, LV.le_refl _, LV.le_refl _, LV.le_refl _, LV.le_refl _, LV.le_refl _, trivial⟩, ⟨rfl, rfl, trivial⟩⟩
        rintro _ st' rfl
        · refine ⟨⟨by omega, by omega⟩, ?_⟩
          refine ⟨(y + 1, N, v, acc), ?_, ⟨rfl, hd, hN, by dsimp only; omega, hacc.congr fun e he hn => ?_⟩, ⟨LV.le_refl _, LV.le_refl _, LV.le_refl _, LV.le_refl _, LV.le_refl _, LV.le_refl _, LV.le_refl _, trivial⟩, ⟨rfl, rfl, trivial⟩⟩
          · show (by' + 1 - (y + 1)).toNat < (by' + 1 - y).toNat
            omega
          · have hne : cellP e.2 ≠ (x, y) := fun hk => by
              obtain ⟨g, hg, hgk⟩ := hi.m2 e he
              exact List.find?_eq_none.1 hf g hg (atKey_iff.2 (by rw [hgk, hk]))
            have : ¬ ((cellP e.2).1 = x ∧ (cellP e.2).2 = y) := fun ⟨h1, h2⟩ => hne (Prod.ext h1 h2)
            dsimp only
            omega
      | some g =>
        obtain ⟨hg, hgk⟩ := find_mem hf
        have hgk := atKey_iff.1 hgk
        obtain ⟨k1, k2, k3⟩ := ha.hg g hg
        have gs := (hi.s g hg).1
        have gl := cut_len hi g hg
        refine AWp.loop (σ := Nat × Store × AV × List Int) ⟨fun s => [(3, .av (ptr b3)), (6, .av (ptr b6)), (7, .av (takeC b3 b4 b5 b6)), (8, .bx 8 0), (9, .bx 9 0), (12, .av (int x)), (13, .av (int y)), (113, .av (.s (.slice (some ⟨g.b, 0, none⟩) g.ns.length g.cap))), (114, .av (int g.ns.length)), (115, .av (int (s.1 : Nat)))],
          fun _ => [(8, [int ax, int ay]), (9, [int bx, int by'])],
          fun s st' => st' = F.un s.2.1 ∧ Disj F s.2.1 ∧ NearAt s.2.1 b3 b4 b5 b6 p q r s.2.2.1 s.2.2.2 ∧ s.1 ≤ g.ns.length ∧ NearIn l q r (fun e => ((cellP e.2).1 < x ∨ ((cellP e.2).1 = x ∧ (cellP e.2).2 < y)) ∨ (cellP e.2 = (x, y) ∧ e.1 ∈ g.ns.take s.1)) s.2.2.2, fun s => g.ns.length - s.1⟩ infoOK ?_ ?_
        · exact ⟨(0, N, v, acc), trivial, ⟨rfl, hd, hN, Nat.zero_le _, hacc.congr fun e he hn => ⟨.inl, fun h => h.elim id fun h => (by cases h.2)⟩⟩, ⟨LV.le_refl _, LV.le_refl _, LV.le_refl _, LV.le_refl _, LV.le_refl _, LV.le_refl _, LV.le_refl _, LV.le_refl _, LV.le_refl _, LV.le_refl _, trivial⟩, ⟨rfl, rfl, trivial⟩⟩
        clear hN hacc hd
        rintro ⟨idx, N, v, acc⟩ st' ⟨rfl, hd, hN, hidx, hacc⟩
        dsimp only at hd hN hidx hacc ⊢
        refine bcd (fun z1 => ?_) (fun z1 => ?_)
        rotate_left
        · have hie : idx = g.ns.length := by omega
          subst hie
          refine ⟨⟨by omega, by omega⟩, ?_⟩
          refine ⟨(y + 1, N, v, acc), ?_, ⟨rfl, hd, hN, by dsimp only; omega, hacc.congr fun e he hn => ?_⟩, ⟨LV.le_refl _, LV.le_refl _, LV.le_refl _, LV.le_refl _, LV.le_refl _, LV.le_refl _, LV.le_refl _, trivial⟩, ⟨rfl, rfl, trivial⟩⟩
          · show (by' + 1 - (y + 1)).toNat < (by' + 1 - y).toNat
            omega
          · rw [List.take_length]
            have h1 : cellP e.2 = (x, y) ↔ ((cellP e.2).1 = x ∧ (cellP e.2).2 = y) := ⟨fun h => by rw [h]; exact ⟨rfl, rfl⟩, fun ⟨h1, h2⟩ => Prod.ext h1 h2⟩
            have h2 : cellP e.2 = (x, y) → e.1 ∈ g.ns := fun h => (hi.m1 g hg e.1).2 ⟨e, he, rfl, by rw [h, hgk]⟩
            dsimp only
            constructor
            · rintro (h | ⟨h, _⟩)
              · omega
              · have := h1.1 h; omega
            · intro h
              by_cases h3 : cellP e.2 = (x, y)
              · exact .inr ⟨h3, h2 h3⟩
              · have h4 : ¬ ((cellP e.2).1 = x ∧ (cellP e.2).2 = y) := fun hh => h3 (h1.2 hh)
                left
                omega
        have hlt : idx < g.ns.length := by omega
        have hidm : g.ns[idx] ∈ g.ns := List.getElem_mem hlt
        obtain ⟨e, hem, heid, hek⟩ := (hi.m1 g hg g.ns[idx]).1 hidm
        refine ⟨idx, rfl, hlt, ?_⟩
        refine optK_intro (o := (F.un N).obj g.b) _ (un_l hd k1) ?_
        refine optK_intro (o := List.head? _) (int e.1) (by
          rw [List.head?_drop, show 0 + idx * ti3.size = idx from by show 0 + idx * 1 = idx; omega, List.getElem?_append_left (by simpa using hlt), List.getElem?_map, List.getElem?_eq_getElem hlt, heid]; rfl) ?_
        refine take_spec hd ⟨ma, mi, _, _, _, _, _, ha, hi⟩ hN hq hr1 (find_self hi.n1 hem) (hok _ hem) (by have := hacc.len; omega) _ (fun N' v' hdd hN' => ?_)
        refine ⟨⟨by omega, by omega⟩, ?_⟩
        refine ⟨(idx + 1, N', v', _), ?_, ⟨rfl, hdd, hN', hlt, ?_⟩, ⟨LV.le_refl _, LV.le_refl _, LV.le_refl _, LV.le_refl _, LV.le_refl _, LV.le_refl _, LV.le_refl _, LV.le_refl _, LV.le_refl _, LV.le_refl _, trivial⟩, ⟨rfl, rfl, trivial⟩⟩
        · show g.ns.length - (idx + 1) < g.ns.length - idx
          omega
        · have hkey : cellP e.2 = (x, y) := by rw [hek, hgk]
          have hnot : e.1 ∉ g.ns.take idx := by
            rw [heid]
            intro hh
            obtain ⟨j, hj⟩ := List.mem_iff_getElem?.1 hh
            have hjlt : j < idx := by
              have := (List.getElem?_eq_some_iff.1 hj).1
              simp at this; omega
            rw [List.getElem?_take_of_lt hjlt] at hj
            have h5 := List.pairwise_iff_getElem.1 gs j idx (by omega) hlt hjlt
            rw [List.getElem?_eq_getElem (by omega)] at hj
            have hj' := Option.some.inj hj
            rw [hj'] at h5
            exact absurd h5 (Int.lt_irrefl _)
          refine (hacc.step hi.n1 hem (fun hh => ?_)).congr fun e' he' _ => ?_
          · rcases hh with hh | ⟨_, hh⟩
            · rw [hkey] at hh; dsimp only at hh; omega
            · exact hnot hh
          · dsimp only
            rw [List.take_succ_eq_append_getElem hlt, List.mem_append]
            constructor
            · rintro ((h | ⟨h, h'⟩) | rfl)
              · exact .inl h
              · exact .inr ⟨h, .inl h'⟩
              · exact .inr ⟨hkey, .inr (by simp [heid])⟩
            · rintro (h | ⟨h, h' | h'⟩)
              · exact .inl (.inl h)
              · exact .inl (.inr ⟨h, h'⟩)
              · right
                have : e'.1 = e.1 := by rw [heid]; simpa using h'
                exact id_eq hi.n1 hem he' this
  · rintro ⟨F', N, v, acc⟩ st' ⟨rfl, hd, hc', hN, hacc⟩
    dsimp only at hd hc' hN hacc ⊢
    refine AWp.of_vc infoOK ?_
    refine optK_intro (o := (F'.un N).obj b6) _ (un_r hN.h6) ?_
    have hms := mergeSort_lt hacc.1
    have hnear : IsNear l q r (acc.mergeSort fun x y => decide (x ≤ y)) := ⟨hms.1, fun id => by
      rw [hms.2, hacc.2 id]
      constructor
      · rintro ⟨e, h1, h2, h3, _⟩; exact ⟨e, h1, h2, h3⟩
      · rintro ⟨e, h1, h2, h3⟩; exact ⟨e, h1, h2, h3, trivial⟩⟩
    have hal := hacc.len
    have hml : (acc.mergeSort fun x y => decide (x ≤ y)).length = acc.length := List.length_mergeSort acc
    rcases ints_cellsR hN.hv with ⟨rfl, rfl⟩ | ⟨b, cap, L, rfl, ho, h1, h2, h3⟩
    · refine sort_nil _ ?_
      refine optK_intro (o := (F'.un N).obj b6) _ (un_r hN.h6) ?_
      refine storeK_obj (i := ti36) (v := .s (.slice none 0 0)) (b := b6) (o := 0) (l := [.s (.slice none 0 0)]) rfl rfl rfl (un_r hN.h6) (Nat.le_refl _) ?_
      refine optK_intro (o := Store.obj (Store.setObj _ b6 _) b6) _ (setObj_self _ _ _) ?_
      refine ret ?_
      rw [un_setObj]
      exact h F' _ _ _ hc' (disj_setR' hd hN.h6) (.inl ⟨rfl, by simp⟩) hnear
    · refine sort_spec (un_r ho) (by omega) _ ?_
      have hb6 : b6 ≠ b := Ne.symm (hN.nv b _ _ rfl).2.2.2
      have h6 : ((F'.un N).setObj b (.cells ((acc.mergeSort fun x y => decide (x ≤ y)).map aI ++ L))).obj b6 = some (.cells [.s (.slice (some ⟨b, 0, none⟩) acc.length cap)]) := by rw [setObj_ne hb6]; exact un_r hN.h6
      refine optK_intro (o := Store.obj (Store.setObj _ b _) b6) _ h6 ?_
      refine storeK_obj (i := ti36) (v := .s (.slice (some ⟨b, 0, none⟩) acc.length cap)) (b := b6) (o := 0) (l := [.s (.slice (some ⟨b, 0, none⟩) acc.length cap)]) rfl rfl rfl h6 (Nat.le_refl _) ?_
      refine optK_intro (o := Store.obj (Store.setObj _ b6 _) b6) _ (setObj_self _ _ _) ?_
      refine ret ?_
      rw [un_setObj, un_setObj]
      refine h F' _ _ _ hc' (disj_setR' (disj_setR' hd ho) (by rw [setObj_ne hb6]; exact hN.h6)) (.inr ⟨b, cap, L, ?_, ?_, ?_, ?_, h3⟩) hnear
      · rw [hml]; rfl
      · rw [setObj_ne (Ne.symm hb6)]; exact setObj_self _ _ _
      · omega
      · omega
end Go.Proofs
namespace Go.Proofs
open Go Go.V
set_option linter.unusedVariables false
/-- The cells beside something else. -/
theorem cRemoveF {F S : Store} {p : Nat} {l : List Ent} (hc : CellsOf F p l) (hd : Disj F S) (hl : l.length ≤ 1000000000) (hok : ∀ e ∈ l, e.2.ok) (id : Int) (R : AV → Store → Prop)
    (h : ∀ F', CellsOf F' p (dropId l id) → Disj F' S → R (V.bool (l.find? (atId id)).isSome) (F'.un S)) : ACalls Tryz.prog 147 [ptr p, int id] (F.un S) R :=
  ACalls.frame (R := fun r a' => r = V.bool (l.find? (atId id)).isSome ∧ CellsOf a' p (dropId l id)) hd (cellsRemove_spec hc hl hok id _ fun a' ha' => ⟨rfl, ha'⟩) fun r a' ⟨h1, h2⟩ hd' => h1 ▸ h a' h2 hd'
theorem cPutF {F S : Store} {p : Nat} {l : List Ent} (hc : CellsOf F p l) (hd : Disj F S) (hl : l.length ≤ 1000000000) (hok : ∀ e ∈ l, e.2.ok) (id : Int) (pos : Vc) (hpos : pos.ok) (R : AV → Store → Prop)
    (h : ∀ F', CellsOf F' p (dropId l id ++ [(id, pos)]) → Disj F' S → R (.tup []) (F'.un S)) : ACalls Tryz.prog 108 [ptr p, int id, .agg (vecC pos)] (F.un S) R :=
  ACalls.frame (R := fun r a' => r = .tup [] ∧ CellsOf a' p (dropId l id ++ [(id, pos)])) hd (cellsPut_spec hc hl hok id pos hpos _ fun a' ha' => ⟨rfl, ha'⟩) fun r a' ⟨h1, h2⟩ hd' => h1 ▸ h a' h2 hd'
theorem cNearF {F S : Store} {p : Nat} {l : List Ent} (hc : CellsOf F p l) (hd : Disj F S) (hl : l.length ≤ 1000000000) (hok : ∀ e ∈ l, e.2.ok) {q : Vc} (hq : q.ok) {r : Int} (hr : InI64 r) (R : AV → Store → Prop)
    (h : ∀ F' N v ns, CellsOf F' p l → Disj F' N → Disj F' S → Disj N S → Ints N v ns → IsNear l q r ns → R v ((F'.un N).un S)) : ACalls Tryz.prog 154 [ptr p, .agg (vecC q), int r] (F.un S) R :=
  ACalls.frame (R := fun v a' => ∃ F' N ns, a' = F'.un N ∧ CellsOf F' p l ∧ Disj F' N ∧ Ints N v ns ∧ IsNear l q r ns) hd (cellsNear_spec hc hl hok hq hr _ fun F' N v ns h1 h2 h3 h4 => ⟨F', N, ns, rfl, h1, h2, h3, h4⟩)
    fun v a' ⟨F', N, ns, h1, h2, h3, h4, h5⟩ hd' => by subst h1; exact h F' N v ns h2 h3 (disj_un.1 hd').1 (disj_un.1 hd').2 h4 h5
end Go.Proofs
