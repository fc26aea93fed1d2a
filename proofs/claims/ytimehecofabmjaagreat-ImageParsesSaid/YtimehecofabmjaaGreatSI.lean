/- The ground on which laws of thronglaw26 are proved: contracts of functions and plain lemmas; no condition beyond the row's own. -/
import Derived.Test.YtimehecofabmjaaGreatPB
import Derived.Test.YtimehecofabmjaaGreatSH
set_option linter.unusedSimpArgs false
set_option linter.unusedVariables false
namespace Go.Proofs
open Go Go.V
set_option linter.unusedVariables false

theorem imgPut_spec (l : List Int) (hl : l.length ≤ 64) (hn : ∀ n ∈ l, I64 n) {p : Nat} {st0 st : Store} {v : AV} {bs : List UInt8} (ha : App 1 (st0.setObj p (.cells [v])) v (rowsB bs) st) (hr : bs.length ≤ 90000000000000) {R : AV → Store → Prop}
    (h : ∀ v' st', App 1 (st0.setObj p (.cells [v'])) v' (rowsB (bs ++ numsL l)) st' → R (.tup []) st') : ACalls Tryz.prog 78 [ints l, .s (.pointer (some ⟨p, 0, none⟩))] st R := by
  refine ACalls.of_body (c := cfg 15) infoOK Tryz.func78 (by rfl) (by rfl) (by rfl) (by rfl) ?_
  refine AWp.loop (σ := Nat × AV) ⟨fun s => [(1, .av (.s (.pointer (some ⟨p, 0, none⟩)))), (5, .av (ints l)), (6, .av (int l.length)), (7, .av (int s.1))], fun _ => [], fun s st' => s.1 ≤ l.length ∧ App 1 (st0.setObj p (.cells [s.2])) s.2 (rowsB (bs ++ numsL (l.take s.1))) st', fun s => l.length - s.1⟩ infoOK ?_ ?_
  · refine ⟨(0, v), trivial, ⟨Nat.zero_le _, by simpa [numsL] using ha⟩, ⟨LV.le_refl _, LV.le_refl _, ?_, LV.le_refl _, trivial⟩, trivial⟩
    rw [← rws_len (f := intC) l]
    exact LV.le_refl _
  · rintro ⟨i, v⟩ st' ⟨hi, ha⟩
    simp only at hi ha
    refine bcd (fun h1 => ?_) (fun h1 => ?_)
    · have hlt : i < l.length := by omega
      refine ⟨i, rfl, optK_intro _ (rws_get hlt) ?_⟩
      refine optK_intro _ ha.read ?_
      have hlen := numsL_len (l := l.take i) fun n hn' => (hn n (List.mem_of_mem_take hn')).2
      rw [List.length_take] at hlen
      refine putB _ ha (by simp; omega) (hn _ (List.getElem_mem hlt)).2 (fun v st1 ha => ?_)
      refine storeK_obj ha.cells ha.one (by rfl) ha.read (Nat.le_refl _) ?_
      refine ⟨⟨by omega, by omega⟩, ?_⟩
      refine ⟨(i + 1, v), ?_, ⟨hlt, ?_⟩, ⟨LV.le_refl _, LV.le_refl _, LV.le_refl _, LV.le_refl _, trivial⟩, trivial⟩
      · show l.length - (i + 1) < l.length - i
        omega
      · rw [numsL_take hlt, ← List.append_assoc]
        exact ha.setObj
    · obtain rfl : i = l.length := by omega
      rw [List.take_length] at ha
      exact ret (h _ _ ha)

theorem fm_take {α : Type} (f : α → List UInt8) {l : List α} {i : Nat} (h : i < l.length) : (l.take (i + 1)).flatMap f = (l.take i).flatMap f ++ f l[i] := by
  rw [List.take_succ_eq_append_getElem h, List.flatMap_append, List.flatMap_singleton]
theorem fm_len {α : Type} (f : α → List UInt8) (n : Nat) : ∀ l : List α, (∀ x ∈ l, (f x).length ≤ n) → (l.flatMap f).length ≤ n * l.length := by
  intro l
  induction l with
  | nil => intro _; simp
  | cons a l ih =>
    intro h
    have h1 := h a (List.mem_cons_self ..)
    have h2 := ih fun x hx => h x (List.mem_cons_of_mem _ hx)
    rw [List.flatMap_cons, List.length_append, List.length_cons, Nat.mul_add]
    omega
theorem any_I64 {n : Int} (h : any64 n) : I64 n := by unfold any64 at h; unfold I64; omega
theorem bldL_len {b : Bld} (h : bldN b) : (bldL b).length ≤ 54 := by
  unfold bldL
  refine Nat.le_trans (numsL_len fun n hn => ?_) (show 9 * 6 ≤ 54 by decide)
  obtain ⟨h1, h2, h3, h4, h5, h6⟩ := h
  simp at hn
  rcases hn with rfl | rfl | rfl | rfl | rfl | rfl
  · exact h1.2
  · exact h2.2
  · exact h3.2
  · exact h4.2
  · exact h5.2
  · exact h6.2
theorem untL_len {u : Unt} (h : untN u) : (untL u).length ≤ 90 := by
  obtain ⟨h1, h2, h3, h4, h5, h6, h7, h8, h9, h10⟩ := h
  have a1 : (numsL [u.id, u.owner, u.kind]).length ≤ 9 * 3 := numsL_len fun n hn => by
    simp at hn
    rcases hn with rfl | rfl | rfl
    · exact h1.2
    · exact h2.2
    · exact h3.2
  have a2 : (numsL [u.goal + 1, u.next + 1, u.stuck, u.inn, u.state]).length ≤ 9 * 5 := numsL_len fun n hn => by
    simp at hn
    rcases hn with rfl | rfl | rfl | rfl | rfl
    · exact h6.2
    · exact h7.2
    · exact h8.2
    · exact h9.2
    · exact h10.2
  have a3 := intZ_len h4
  have a4 := intZ_len h5
  unfold untL
  simp only [List.length_append]
  omega

set_option maxHeartbeats 2000000 in
theorem ilay_spec (w : Wld) (hw : wldN w) (st : Store) (R : AV → Store → Prop) (h : ∀ v st', App 1 st v (rowsB (worldL w)) st' → R v st') : ACalls Tryz.prog 49 [.agg (wldC w)] st R := by
  obtain ⟨n1, n2, n3, hg, ⟨hB, hbn⟩, hU, hun⟩ := hw
  have hgl := (gndL_len hg).2
  have hgp : (putZ (gndL w.G).length).length ≤ 9 := putZ_len (by omega)
  have l0 : (numsL [w.tick, w.players, w.next]).length ≤ 9 * 3 := numsL_len fun n hn => by
    simp at hn
    rcases hn with rfl | rfl | rfl
    · exact n1.2
    · exact n2.2
    · exact n3.2
  refine ACalls.of_awp (c := cfg 126 [3, 15] []) infoOK Tryz.func49 (by rfl) (by rfl) (by rfl) (by rfl) ?_
  refine AWp.seq (AWp.of_vc infoOK ?_)
  refine AWp.seq (AWp.of_vc infoOK ?_)
  refine ⟨by decide, fun b hb => ?_⟩
  refine optR (optR (optR (optK_intro _ (setTok_self _ _ _) ?_)))
  refine fun p hp => ?_
  have ha0 := (app_of_tok (k := 1) (rows := rowsB [84, 87]) hb (by simp [rws])).boxed hp (x := .cells [.lst 1 (rowsB [84, 87]) (some b)])
  have h0 := (app_of_tok (k := 1) (rows := rowsB [84, 87]) hb (by simp [rws])).fresh hp
  refine storeK_obj (i := ti24) ha0.cells ha0.one (by rfl) (setObj_self _ _ _) (Nat.le_refl _) ?_
  rw [setObj_setObj]
  have ha0 : App 1 (st.setObj p (.cells [.lst 1 (rowsB [84, 87]) (some b)])) (.lst 1 (rowsB [84, 87]) (some b)) (rowsB [84, 87]) ((st.setTok b (some 2)).setObj p (.cells [.lst 1 (rowsB [84, 87]) (some b)])) := ha0
  show vcSeq _ _ _ _ _ _ ((st.setTok b (some 2)).setObj p (.cells [.lst 1 (rowsB [84, 87]) (some b)])) 
  generalize (AV.lst 1 (rowsB [84, 87]) (some b)) = v0 at ha0
  generalize (st.setTok b (some 2)).setObj p (.cells [v0]) = st0 at ha0
  refine AWp.seq (AWp.of_vc infoOK ?_)
  refine AWp.seq (AWp.of_vc infoOK ?_)
  refine ⟨by decide, ?_⟩
  refine imgPut_spec [w.tick, w.players, w.next] (by simp) (by simp; exact ⟨any_I64 n1, any_I64 n2, any_I64 n3⟩) ha0 (by simp) (fun v1 st1 ha1 => ?_)
  refine AWp.seq (AWp.of_vc infoOK ?_)
  refine mapLay_spec w.G hg _ _ ?_
  refine raw_spec (gndL w.G) (by omega) _ _ ?_
  refine AWp.seq (AWp.of_vc infoOK ?_)
  first | refine optK_intro _ (ha1.read) ?_ | refine optR (optK_intro _ (ha1.read) ?_) | refine optR (optR (optK_intro _ (ha1.read) ?_))
  refine appB ha1 (l := putZ (gndL w.G).length ++ gndL w.G) (by rfl) (by simp only [List.length_append, List.length_cons, List.length_nil]; omega) (fun v2 st2 ha2 => ?_)
  refine storeK_obj (i := ti24) ha2.cells ha2.one (by rfl) ha2.read (Nat.le_refl _) ?_
  have ha2 := ha2.setObj (y := .cells [v2])
  refine AWp.seq (AWp.of_vc infoOK ?_)
  refine ⟨by decide, ?_⟩
  have p1 : (putZ (w.B.length : Int)).length ≤ 9 := putZ_len (by omega)
  refine imgPut_spec [((rws bldC w.B).length : Int)] (by simp) (by simp only [List.mem_singleton, forall_eq]; rw [rws_len]; unfold I64; omega) ha2 (by simp only [List.length_append, List.length_cons, List.length_nil]; omega) (fun v3 st3 ha3 => ?_)
  rw [rws_len, numsL1] at ha3
  generalize hpre : [84, 87] ++ numsL [w.tick, w.players, w.next] ++ (putZ (gndL w.G).length ++ gndL w.G) ++ putZ (w.B.length : Int) = pre at ha3
  have hprel : pre.length ≤ 17000 := by rw [← hpre]; simp only [List.length_append, List.length_cons, List.length_nil]; omega
  refine AWp.meetA (σ := AV) ⟨fun v => [(1, .bx 1 0), (3, .av (ptr p)), (4, .av (.clos 78 [ptr p]))], fun _ => [(1, wldC w)], fun v st' => App 1 (st.setObj p (.cells [v])) v (rowsB (pre ++ w.B.flatMap bldL)) st'⟩ ?_ ?_
  · refine AWp.seq (AWp.of_vc infoOK ?_)
    refine AWp.of_vc infoOK ?_
    refine AWp.loop (σ := Nat × AV) ⟨fun x => [(1, .bx 1 0), (3, .av (ptr p)), (4, .av (.clos 78 [ptr p])), (44, .av (lst 6 bldC w.B)), (45, .av (int (w.B.length : Nat))), (46, .av (int (x.1 : Nat)))], fun _ => [(1, wldC w)],
      fun x st' => x.1 ≤ w.B.length ∧ App 1 (st.setObj p (.cells [x.2])) x.2 (rowsB (pre ++ (w.B.take x.1).flatMap bldL)) st', fun x => w.B.length - x.1⟩ infoOK ?_ ?_
    · refine ⟨(0, v3), trivial, ⟨Nat.zero_le _, by simpa using ha3⟩, ⟨LV.le_refl _, LV.le_refl _, LV.le_refl _, LV.le_refl _, ?_, LV.le_refl _, trivial⟩, ⟨rfl, trivial⟩⟩
      rw [← rws_len (f := bldC) w.B]; exact LV.le_refl _
    rintro ⟨i, v⟩ st' ⟨hi, ha⟩
    dsimp only at hi ha ⊢
    refine bcd (fun h1 => ?_) (fun h1 => ?_)
    rotate_left
    · have : i = w.B.length := by omega
      subst this
      rw [List.take_length] at ha
      exact ⟨v, ha, ⟨LV.le_refl _, LV.le_refl _, LV.le_refl _, trivial⟩, ⟨rfl, trivial⟩⟩
    have hlt : i < w.B.length := by omega
    obtain ⟨b1, b2, b3, b4, b5, b6⟩ := hbn _ (List.getElem_mem hlt)
    have hfl := fm_len bldL 54 (w.B.take i) fun x hx => bldL_len (hbn x (List.mem_of_mem_take hx))
    rw [List.length_take] at hfl
    refine ⟨i, rfl, optK_intro _ (rws_get hlt) ?_⟩
    refine ⟨by decide, ?_⟩
    refine imgPut_spec [w.B[i].id, w.B[i].owner, w.B[i].x, w.B[i].y, w.B[i].w, w.B[i].h] (by simp) (by simp; exact ⟨any_I64 b1, any_I64 b2, any_I64 b3, any_I64 b4, any_I64 b5, any_I64 b6⟩) ha (by rw [List.length_append]; omega) (fun v4 st4 ha4 => ?_)
    refine in64 (by omega) ?_
    refine ⟨(i + 1, v4), ?_, ⟨by dsimp only; omega, ?_⟩, ⟨LV.le_refl _, LV.le_refl _, LV.le_refl _, LV.le_refl _, LV.le_refl _, LV.le_refl _, trivial⟩, ⟨rfl, trivial⟩⟩
    · show w.B.length - (i + 1) < w.B.length - i
      omega
    · dsimp only
      rw [fm_take bldL hlt, ← List.append_assoc]
      exact ha4
  rintro v5 st5 ha5
  dsimp only at ha5 ⊢
  have hfl := fm_len bldL 54 w.B fun x hx => bldL_len (hbn x hx)
  have p2 : (putZ (w.U.length : Int)).length ≤ 9 := putZ_len (by omega)
  refine AWp.seq (AWp.of_vc infoOK ?_)
  refine ⟨by decide, ?_⟩
  refine imgPut_spec [((rws untC w.U).length : Int)] (by simp) (by simp only [List.mem_singleton, forall_eq]; rw [rws_len]; unfold I64; omega) ha5 (by rw [List.length_append]; omega) (fun v6 st6 ha6 => ?_)
  rw [rws_len, numsL1] at ha6
  generalize hpre2 : pre ++ w.B.flatMap bldL ++ putZ (w.U.length : Int) = pre2 at ha6
  have hpre2l : pre2.length ≤ 40000 := by rw [← hpre2]; simp only [List.length_append]; omega
  refine AWp.meetA (σ := AV) ⟨fun v => [(3, .av (ptr p))], fun _ => [], fun v st' => App 1 (st.setObj p (.cells [v])) v (rowsB (pre2 ++ w.U.flatMap untL)) st'⟩ ?_ ?_
  · refine AWp.seq (AWp.of_vc infoOK ?_)
    refine AWp.of_vc infoOK ?_
    refine AWp.loop (σ := Nat × AV) ⟨fun x => [(1, .bx 1 0), (3, .av (ptr p)), (4, .av (.clos 78 [ptr p])), (73, .av (lst 10 untC w.U)), (74, .av (int (w.U.length : Nat))), (75, .av (int (x.1 : Nat)))], fun _ => [(1, wldC w)],
      fun x st' => x.1 ≤ w.U.length ∧ App 1 (st.setObj p (.cells [x.2])) x.2 (rowsB (pre2 ++ (w.U.take x.1).flatMap untL)) st', fun x => w.U.length - x.1⟩ infoOK ?_ ?_
    · refine ⟨(0, v6), trivial, ⟨Nat.zero_le _, by simpa using ha6⟩, ⟨LV.le_refl _, LV.le_refl _, LV.le_refl _, LV.le_refl _, ?_, LV.le_refl _, trivial⟩, ⟨rfl, trivial⟩⟩
      rw [← rws_len (f := untC) w.U]; exact LV.le_refl _
    rintro ⟨i, v⟩ st' ⟨hi, ha⟩
    dsimp only at hi ha ⊢
    refine bcd (fun h1 => ?_) (fun h1 => ?_)
    rotate_left
    · have : i = w.U.length := by omega
      subst this
      rw [List.take_length] at ha
      exact ⟨v, ha, ⟨LV.le_refl _, trivial⟩, trivial⟩
    have hlt : i < w.U.length := by omega
    obtain ⟨u1, u2, u3, u4, u5, u6, u7, u8, u9, u10⟩ := hun _ (List.getElem_mem hlt)
    have hfl := fm_len untL 90 (w.U.take i) fun x hx => untL_len (hun x (List.mem_of_mem_take hx))
    rw [List.length_take] at hfl
    refine ⟨i, rfl, optK_intro _ (rws_get hlt) ?_⟩
    refine ⟨by decide, ?_⟩
    have q1 : (numsL [w.U[i].id, w.U[i].owner, w.U[i].kind]).length ≤ 9 * 3 := numsL_len fun n hn => by
      simp at hn
      rcases hn with rfl | rfl | rfl
      · exact u1.2
      · exact u2.2
      · exact u3.2
    refine imgPut_spec [w.U[i].id, w.U[i].owner, w.U[i].kind] (by simp) (by simp; exact ⟨any_I64 u1, any_I64 u2, any_I64 u3⟩) ha (by rw [List.length_append]; omega) (fun v7 st7 ha7 => ?_)
    refine ⟨by decide, ?_⟩
    obtain ⟨pp, hpp, hpl, hall⟩ : ∃ pp : List Int, [w.U[i].pos.1, w.U[i].pos.2] = pp ∧ pp.length = 2 ∧ ∀ x ∈ pp, I62 x := ⟨_, rfl, rfl, by simp; exact ⟨u4, u5⟩⟩
    refine AWp.loop (σ := Nat × AV) ⟨fun x => [(1, .bx 1 0), (3, .av (ptr p)), (4, .av (.clos 78 [ptr p])), (73, .av (lst 10 untC w.U)), (74, .av (int (w.U.length : Nat))), (75, .av (int (i : Nat))), (10, .bx 10 0), (94, .av (lst 1 intC pp)), (95, .av (int 2)), (96, .av (int (x.1 : Nat)))], fun _ => [(1, wldC w), (10, untC w.U[i])],
      fun x st' => x.1 ≤ 2 ∧ App 1 (st.setObj p (.cells [x.2])) x.2 (rowsB (pre2 ++ (w.U.take i).flatMap untL ++ numsL [w.U[i].id, w.U[i].owner, w.U[i].kind] ++ (pp.take x.1).flatMap intZ)) st', fun x => 2 - x.1⟩ infoOK ?_ ?_
    · refine ⟨(0, v7), trivial, ⟨Nat.zero_le _, by simpa using ha7⟩, ⟨LV.le_refl _, LV.le_refl _, LV.le_refl _, LV.le_refl _, LV.le_refl _, LV.le_refl _, LV.le_refl _, ?_, LV.le_refl _, LV.le_refl _, trivial⟩, ⟨rfl, rfl, trivial⟩⟩
      rw [← hpp]; exact LV.le_refl _
    rintro ⟨j, v8⟩ st8 ⟨hj, ha8⟩
    dsimp only at hj ha8 ⊢
    have hifl := fm_len intZ 9 (pp.take j) fun x hx => by
      obtain ⟨m, hm, rfl⟩ := List.getElem_of_mem (List.mem_of_mem_take hx)
      exact intZ_len (hall _ (List.getElem_mem hm))
    rw [List.length_take] at hifl
    refine bcd (fun h2 => ?_) (fun h2 => ?_)
    · have hj2 : j < 2 := by omega
      refine ⟨j, rfl, optK_intro _ (rws_get (show j < pp.length by omega)) ?_⟩
      refine int_spec pp[j] (hall _ (List.getElem_mem _)) _ _ ?_
      first | refine optK_intro _ (ha8.read) ?_ | refine optR (optK_intro _ (ha8.read) ?_) | refine optR (optR (optK_intro _ (ha8.read) ?_))
      have hz := intZ_len (hall pp[j] (List.getElem_mem _))
      refine appB ha8 (l := intZ pp[j]) (by rfl) (by simp only [List.length_append]; omega) (fun v9 st9 ha9 => ?_)
      refine storeK_obj (i := ti24) ha9.cells ha9.one (by rfl) ha9.read (Nat.le_refl _) ?_
      refine in64 (by omega) ?_
      refine ⟨(j + 1, v9), ?_, ⟨by dsimp only; omega, ?_⟩, ⟨LV.le_refl _, LV.le_refl _, LV.le_refl _, LV.le_refl _, LV.le_refl _, LV.le_refl _, LV.le_refl _, LV.le_refl _, LV.le_refl _, LV.le_refl _, trivial⟩, ⟨rfl, rfl, trivial⟩⟩
      · show 2 - (j + 1) < 2 - j
        omega
      · dsimp only
        rw [fm_take intZ (show j < pp.length by omega), ← List.append_assoc]
        exact ha9.setObj
    · have : j = 2 := by omega
      subst this
      have e2 : pp.take 2 = pp := List.take_of_length_le (by omega)
      rw [e2, ← hpp] at ha8
      rw [e2, ← hpp] at hifl
      refine in64 (by unfold any64 at u6; omega) ?_
      refine in64 (by unfold any64 at u7; omega) ?_
      refine ⟨by decide, ?_⟩
      refine imgPut_spec [w.U[i].goal + 1, w.U[i].next + 1, w.U[i].stuck, w.U[i].inn, w.U[i].state] (by simp) (by simp; exact ⟨any_I64 u6, any_I64 u7, any_I64 u8, any_I64 u9, any_I64 u10⟩) ha8 (by simp only [List.length_append]; omega) (fun v9 st9 ha9 => ?_)
      refine in64 (by omega) ?_
      refine ⟨(i + 1, v9), ?_, ⟨by dsimp only; omega, ?_⟩, ⟨LV.le_refl _, LV.le_refl _, LV.le_refl _, LV.le_refl _, LV.le_refl _, LV.le_refl _, trivial⟩, ⟨rfl, trivial⟩⟩
      · show w.U.length - (i + 1) < w.U.length - i
        omega
      · dsimp only
        rw [fm_take untL hlt]
        have e : pre2 ++ (w.U.take i).flatMap untL ++ numsL [w.U[i].id, w.U[i].owner, w.U[i].kind] ++ [w.U[i].pos.1, w.U[i].pos.2].flatMap intZ ++ numsL [w.U[i].goal + 1, w.U[i].next + 1, w.U[i].stuck, w.U[i].inn, w.U[i].state] = pre2 ++ ((w.U.take i).flatMap untL ++ untL w.U[i]) := by
          unfold untL
          simp
        rw [← e]
        exact ha9
  rintro v10 st10 ha10
  dsimp only at ha10 ⊢
  refine AWp.of_vc infoOK ?_
  first | refine optK_intro _ (ha10.read) ?_ | refine optR (optK_intro _ (ha10.read) ?_) | refine optR (optR (optK_intro _ (ha10.read) ?_))
  have e : pre2 ++ w.U.flatMap untL = worldL w := by
    rw [← hpre2, ← hpre]
    unfold worldL
    simp
  rw [e] at ha10
  obtain ⟨st3, h3, h4⟩ := ha10.dropObj h0
  exact retR (h _ _ h3) h4 (AV.le_refl _)
end Go.Proofs
namespace Go.Proofs
open Go Go.V
set_option linter.unusedVariables false

theorem worldL_len {w : Wld} (hw : wldN w) : (worldL w).length ≤ 500000 := by
  obtain ⟨n1, n2, n3, hg, ⟨hB, hbn⟩, hU, hun⟩ := hw
  have hgl := (gndL_len hg).2
  have hgp : (putZ (gndL w.G).length).length ≤ 9 := putZ_len (by omega)
  have l0 : (numsL [w.tick, w.players, w.next]).length ≤ 9 * 3 := numsL_len fun n hn => by
    simp at hn
    rcases hn with rfl | rfl | rfl
    · exact n1.2
    · exact n2.2
    · exact n3.2
  have p1 : (putZ (w.B.length : Int)).length ≤ 9 := putZ_len (by omega)
  have p2 : (putZ (w.U.length : Int)).length ≤ 9 := putZ_len (by omega)
  have f1 := fm_len bldL 54 w.B fun x hx => bldL_len (hbn x hx)
  have f2 := fm_len untL 90 w.U fun x hx => untL_len (hun x hx)
  unfold worldL
  simp only [List.length_append, List.length_cons, List.length_nil]
  omega

theorem isum_spec (w : Wld) (hw : wldN w) (st : Store) (R : AV → Store → Prop) (h : R (u64 (fnvSum fnvStart (worldL w))) st) : ACalls Tryz.prog 53 [.agg (wldC w)] st R := by
  have hl := worldL_len hw
  refine ACalls.of_body (c := cfg 7) infoOK Tryz.func53 (by rfl) (by rfl) (by rfl) (by rfl) ?_
  refine ADraw.of_sched infoOK (by rfl) (by rfl) sch53_1 (by rfl) ?_
  refine ⟨startSum_spec2 _ _ ⟨(by repeat (first | exact trivial | refine ⟨rfl, ?_⟩ | refine ⟨optR (optR (optR (optK_intro _ (setObj_self _ _ _) rfl))), ?_⟩)), ?_⟩, trivial⟩
  refine ⟨ilay_spec w hw _ _ (fun v st' ha => ⟨trivial, ?_⟩), trivial⟩
  refine ⟨fnvSumV _ ha.le (by omega) ⟨trivial, ?_⟩, trivial⟩
  refine ⟨⟨trivial, ?_⟩, trivial⟩
  exact retR h ha.has (AV.le_refl _)

theorem ibytes_spec (w : Wld) (hw : w.fits) (hn : ∀ u ∈ w.U, u.pos.ok) (st : Store) (R : AV → Store → Prop) (h0 : ¬ mayP w → R (.tup [byts [], int 1]) st) (h1 : mayP w → R (.tup [byts (imgL w), int 0]) st) : ACalls Tryz.prog 18 [.agg (wldC w)] st R := by
  refine ACalls.of_body (c := cfg 16) infoOK Tryz.func18 (by rfl) (by rfl) (by rfl) (by rfl) ?_
  refine may_spec w hw hn _ _ (yesno (fun hm => ?_) (fun hm => retR (h0 hm) (Store.Has.refl _) (AV.le_tupL ⟨AV.le_nil 1, AV.le_refl _, trivial⟩)))
  have hwn := may_nums hm
  have hl := worldL_len hwn
  refine ilay_spec w hwn _ _ (fun v st' ha => ?_)
  refine startSum_spec2 _ _ ?_
  refine fnvSumV _ ha.le (by omega) ?_
  refine fnvBytes_spec _ _ _ ?_
  refine appB ha (l := eightL (fnvSum fnvStart (worldL w))) (by rfl) (by rw [eightL_len]; omega) (fun v st1 ha => ?_)
  exact retR (h1 hm) ha.has (AV.le_tupL ⟨ha.le, AV.le_refl _, trivial⟩)

theorem ihash_spec (w : Wld) (hw : w.fits) (hn : ∀ u ∈ w.U, u.pos.ok) (st : Store) (R : AV → Store → Prop) (h0 : ¬ mayP w → R (.tup [u64 0, int 1]) st) (h1 : mayP w → R (.tup [u64 (fnvSum fnvStart (worldL w)), int 0]) st) : ACalls Tryz.prog 20 [.agg (wldC w)] st R := by
  refine ACalls.of_body (c := cfg 9) infoOK Tryz.func20 (by rfl) (by rfl) (by rfl) (by rfl) ?_
  refine may_spec w hw hn _ _ (yesno (fun hm => ?_) (fun hm => ret (h0 hm)))
  refine isum_spec w (may_nums hm) _ _ ?_
  exact ret (h1 hm)

set_option maxHeartbeats 2000000 in
theorem rbody_spec (w : Wld) (hw : wldN w) (st : Store) (R : AV → Store → Prop) (h : ∀ v st', App 1 st v (rowsB (worldL w)) st' → R v st') : ACalls Tryz.prog 59 [.agg (wldC w)] st R := by
  obtain ⟨n1, n2, n3, hg, ⟨hB, hbn⟩, hU, hun⟩ := hw
  have hgl := (gndL_len hg).2
  have hgp : (putZ (gndL w.G).length).length ≤ 9 := putZ_len (by omega)
  have l0 : (numsL [w.tick, w.players, w.next]).length ≤ 9 * 3 := numsL_len fun n hn => by
    simp at hn
    rcases hn with rfl | rfl | rfl
    · exact n1.2
    · exact n2.2
    · exact n3.2
  refine ACalls.of_awp (c := cfg 109 [8] []) infoOK Tryz.func59 (by rfl) (by rfl) (by rfl) (by rfl) ?_
  refine AWp.seq (AWp.of_vc infoOK ?_)
  refine AWp.seq (AWp.of_vc infoOK ?_)
  refine ⟨by decide, fun b hb => ?_⟩
  refine ⟨by decide, ?_⟩
  refine put26_spec [w.tick, w.players, w.next] (by simp; exact ⟨any_I64 n1, any_I64 n2, any_I64 n3⟩) (bs := [84, 87]) (app_of_tok hb (by simp [rws])) (by simp) (fun v1 st1 ha1 => ?_)
  refine AWp.seq (AWp.of_vc infoOK ?_)
  refine raw26_spec w.G hg ha1 (by simp only [List.length_append, List.length_cons, List.length_nil]; omega) (fun v2 st2 ha2 => ?_)
  refine AWp.seq (AWp.of_vc infoOK ?_)
  refine ⟨by decide, ?_⟩
  have p1 : (putZ (w.B.length : Int)).length ≤ 9 := putZ_len (by omega)
  refine put26_spec [((rws bldC w.B).length : Int)] (by simp only [List.mem_singleton, forall_eq]; rw [rws_len]; unfold I64; omega) ha2 (by simp only [List.length_append, List.length_cons, List.length_nil]; omega) (fun v3 st3 ha3 => ?_)
  rw [rws_len, numsL1] at ha3
  generalize hpre : [84, 87] ++ numsL [w.tick, w.players, w.next] ++ (putZ (gndL w.G).length ++ gndL w.G) ++ putZ (w.B.length : Int) = pre at ha3
  have hprel : pre.length ≤ 17000 := by rw [← hpre]; simp only [List.length_append, List.length_cons, List.length_nil]; omega
  refine AWp.meetA (σ := AV) ⟨fun v => [(1, .bx 1 0), (3, .av v)], fun _ => [(1, wldC w)], fun v st' => App 1 st v (rowsB (pre ++ w.B.flatMap bldL)) st'⟩ ?_ ?_
  · refine AWp.seq (AWp.of_vc infoOK ?_)
    refine AWp.of_vc infoOK ?_
    refine AWp.loop (σ := Nat × AV) ⟨fun x => [(1, .bx 1 0), (3, .av x.2), (4, .av (int (x.1 : Nat)))], fun _ => [(1, wldC w)],
      fun x st' => x.1 ≤ w.B.length ∧ App 1 st x.2 (rowsB (pre ++ (w.B.take x.1).flatMap bldL)) st', fun x => w.B.length - x.1⟩ infoOK ?_ ?_
    · exact ⟨(0, v3), trivial, ⟨Nat.zero_le _, by simpa using ha3⟩, ⟨LV.le_refl _, LV.le_refl _, LV.le_refl _, trivial⟩, ⟨rfl, trivial⟩⟩
    rintro ⟨i, v⟩ st' ⟨hi, ha⟩
    dsimp only at hi ha ⊢
    refine bcase_intro (fun h1 => ?_) (fun h1 => ?_)
    rotate_left
    · have : i = w.B.length := ge_len h1 hi
      subst this
      rw [List.take_length] at ha
      exact ⟨v, ha, ⟨LV.le_refl _, LV.le_refl _, trivial⟩, ⟨rfl, trivial⟩⟩
    have hlt : i < w.B.length := lt_len h1
    obtain ⟨b1, b2, b3, b4, b5, b6⟩ := hbn _ (List.getElem_mem hlt)
    have hfl := fm_len bldL 54 (w.B.take i) fun x hx => bldL_len (hbn x (List.mem_of_mem_take hx))
    rw [List.length_take] at hfl
    refine ⟨i, rfl, optK_intro _ (rws_get hlt) ?_⟩
    refine ⟨by decide, ?_⟩
    refine put26_spec [w.B[i].id, w.B[i].owner, w.B[i].x, w.B[i].y, w.B[i].w, w.B[i].h] (by simp; exact ⟨any_I64 b1, any_I64 b2, any_I64 b3, any_I64 b4, any_I64 b5, any_I64 b6⟩) ha (by rw [List.length_append]; simp only [List.length_cons, List.length_nil]; omega) (fun v4 st4 ha4 => ?_)
    refine in64 (by omega) ?_
    refine ⟨(i + 1, v4), ?_, ⟨by dsimp only; omega, ?_⟩, ⟨LV.le_refl _, LV.le_refl _, LV.le_refl _, trivial⟩, ⟨rfl, trivial⟩⟩
    · show w.B.length - (i + 1) < w.B.length - i
      omega
    · dsimp only
      rw [fm_take bldL hlt, ← List.append_assoc]
      exact ha4
  rintro v5 st5 ha5
  dsimp only at ha5 ⊢
  have hfl := fm_len bldL 54 w.B fun x hx => bldL_len (hbn x hx)
  have p2 : (putZ (w.U.length : Int)).length ≤ 9 := putZ_len (by omega)
  refine AWp.seq (AWp.of_vc infoOK ?_)
  refine ⟨by decide, ?_⟩
  refine put26_spec [((rws untC w.U).length : Int)] (by simp only [List.mem_singleton, forall_eq]; rw [rws_len]; unfold I64; omega) ha5 (by rw [List.length_append]; simp only [List.length_cons, List.length_nil]; omega) (fun v6 st6 ha6 => ?_)
  rw [rws_len, numsL1] at ha6
  generalize hpre2 : pre ++ w.B.flatMap bldL ++ putZ (w.U.length : Int) = pre2 at ha6
  have hpre2l : pre2.length ≤ 40000 := by rw [← hpre2]; simp only [List.length_append]; omega
  refine AWp.meetA (σ := AV) ⟨fun v => [(3, .av v)], fun _ => [], fun v st' => App 1 st v (rowsB (pre2 ++ w.U.flatMap untL)) st'⟩ ?_ ?_
  · refine AWp.seq (AWp.of_vc infoOK ?_)
    refine AWp.of_vc infoOK ?_
    refine AWp.loop (σ := Nat × AV) ⟨fun x => [(1, .bx 1 0), (3, .av x.2), (6, .av (int (x.1 : Nat)))], fun _ => [(1, wldC w)],
      fun x st' => x.1 ≤ w.U.length ∧ App 1 st x.2 (rowsB (pre2 ++ (w.U.take x.1).flatMap untL)) st', fun x => w.U.length - x.1⟩ infoOK ?_ ?_
    · exact ⟨(0, v6), trivial, ⟨Nat.zero_le _, by simpa using ha6⟩, ⟨LV.le_refl _, LV.le_refl _, LV.le_refl _, trivial⟩, ⟨rfl, trivial⟩⟩
    rintro ⟨i, v⟩ st' ⟨hi, ha⟩
    dsimp only at hi ha ⊢
    refine bcase_intro (fun h1 => ?_) (fun h1 => ?_)
    rotate_left
    · have : i = w.U.length := ge_len h1 hi
      subst this
      rw [List.take_length] at ha
      exact ⟨v, ha, ⟨LV.le_refl _, trivial⟩, trivial⟩
    have hlt : i < w.U.length := lt_len h1
    obtain ⟨u1, u2, u3, u4, u5, u6, u7, u8, u9, u10⟩ := hun _ (List.getElem_mem hlt)
    have hfl := fm_len untL 90 (w.U.take i) fun x hx => untL_len (hun x (List.mem_of_mem_take hx))
    rw [List.length_take] at hfl
    have q1 : (numsL [w.U[i].id, w.U[i].owner, w.U[i].kind]).length ≤ 9 * 3 := numsL_len fun n hn => by
      simp at hn
      rcases hn with rfl | rfl | rfl
      · exact u1.2
      · exact u2.2
      · exact u3.2
    have z1 := intZ_len u4
    have z2 := intZ_len u5
    refine ⟨i, rfl, optK_intro _ (rws_get hlt) ?_⟩
    refine ⟨by decide, ?_⟩
    refine put26_spec [w.U[i].id, w.U[i].owner, w.U[i].kind] (by simp; exact ⟨any_I64 u1, any_I64 u2, any_I64 u3⟩) ha (by rw [List.length_append]; simp only [List.length_cons, List.length_nil]; omega) (fun v7 st7 ha7 => ?_)
    refine int3_spec w.U[i].pos.1 u4 ?_
    refine appB ha7 (l := intZ w.U[i].pos.1) (by rfl) (by simp only [List.length_append]; omega) (fun v8 st8 ha8 => ?_)
    refine int3_spec w.U[i].pos.2 u5 ?_
    refine appB ha8 (l := intZ w.U[i].pos.2) (by rfl) (by simp only [List.length_append]; omega) (fun v9 st9 ha9 => ?_)
    refine in64 (by unfold any64 at u6; omega) ?_
    refine in64 (by unfold any64 at u7; omega) ?_
    refine ⟨by decide, ?_⟩
    refine put26_spec [w.U[i].goal + 1, w.U[i].next + 1, w.U[i].stuck, w.U[i].inn, w.U[i].state] (by simp; exact ⟨any_I64 u6, any_I64 u7, any_I64 u8, any_I64 u9, any_I64 u10⟩) ha9 (by simp only [List.length_append, List.length_cons, List.length_nil]; omega) (fun v10 st10 ha10 => ?_)
    refine in64 (by omega) ?_
    refine ⟨(i + 1, v10), ?_, ⟨by dsimp only; omega, ?_⟩, ⟨LV.le_refl _, LV.le_refl _, LV.le_refl _, trivial⟩, ⟨rfl, trivial⟩⟩
    · show w.U.length - (i + 1) < w.U.length - i
      omega
    · dsimp only
      rw [fm_take untL hlt]
      have e : pre2 ++ (w.U.take i).flatMap untL ++ numsL [w.U[i].id, w.U[i].owner, w.U[i].kind] ++ intZ w.U[i].pos.1 ++ intZ w.U[i].pos.2 ++ numsL [w.U[i].goal + 1, w.U[i].next + 1, w.U[i].stuck, w.U[i].inn, w.U[i].state] = pre2 ++ ((w.U.take i).flatMap untL ++ untL w.U[i]) := by
        unfold untL
        simp
      rw [← e]
      exact ha10
  rintro v10 st10 ha10
  dsimp only at ha10 ⊢
  refine AWp.of_vc infoOK ?_
  have e : pre2 ++ w.U.flatMap untL = worldL w := by
    rw [← hpre2, ← hpre]
    unfold worldL
    simp
  rw [e] at ha10
  exact ret (h _ _ ha10)

theorem rhash_spec (w : Wld) (hw : wldN w) (st : Store) (R : AV → Store → Prop) (h : R (u64 (fnvSum fnvStart (worldL w))) st) : ACalls Tryz.prog 23 [.agg (wldC w)] st R := by
  have hl := worldL_len hw
  refine ACalls.of_body (c := cfg 6) infoOK Tryz.func23 (by rfl) (by rfl) (by rfl) (by rfl) ?_
  refine rbody_spec w hw _ _ (fun v st' ha => ?_)
  refine sum3_spec _ ha.le (by omega) ?_
  exact retR h ha.has (AV.le_refl _)

theorem rbytes_spec (w : Wld) (hw : wldN w) (st : Store) (R : AV → Store → Prop) (h : R (byts (imgL w)) st) : ACalls Tryz.prog 22 [.agg (wldC w)] st R := by
  have hl := worldL_len hw
  refine ACalls.of_body (c := cfg 9) infoOK Tryz.func22 (by rfl) (by rfl) (by rfl) (by rfl) ?_
  refine ADraw.of_sched infoOK (by rfl) (by rfl) sch22_1 (by rfl) ?_
  refine ⟨rbody_spec w hw _ _ (fun v st' ha => ⟨(by repeat (first | exact trivial | refine ⟨rfl, ?_⟩ | refine ⟨optR (optR (optR (optK_intro _ (setObj_self _ _ _) rfl))), ?_⟩)), ?_⟩), trivial⟩
  refine ⟨rhash_spec w hw _ _ ⟨trivial, ?_⟩, trivial⟩
  refine ⟨eight3_spec _ ⟨trivial, ?_⟩, trivial⟩
  refine ⟨appB ha (l := eightL (fnvSum fnvStart (worldL w))) (by rfl) (by rw [eightL_len]; omega) (fun v st1 ha => ⟨trivial, ?_⟩), trivial⟩
  refine ⟨⟨trivial, ?_⟩, trivial⟩
  exact retR h ha.has ha.le
end Go.Proofs
namespace Go.Proofs
open Go Go.V
set_option linter.unusedVariables false

theorem setObj_get {st : Store} {b : Nat} {x : AObj} (h : st.obj b = some x) : st.setObj b x = st := by
  obtain ⟨o, t⟩ := st
  unfold Store.setObj
  congr 1
  funext i
  dsimp only at h ⊢
  cases hb : Nat.beq i b with
  | true => rw [(beq_iff _ _).1 hb, h]; rfl
  | false => rfl
theorem rdO_id {p : Nat} {s : Rd} {S : Store} (h : S.obj p = some (.cells [byts s.b, int s.e])) : rdO p s S = S := setObj_get h
theorem rdO_rdO (p : Nat) (s t : Rd) (S : Store) : rdO p s (rdO p t S) = rdO p s S := setObj_setObj _ _ _ _
theorem rdO_ne {p q : Nat} (h : q ≠ p) (s : Rd) (S : Store) : (rdO p s S).obj q = S.obj q := setObj_ne h
theorem rdO_swap {p q : Nat} (h : q ≠ p) (s : Rd) (S : Store) (x : AObj) : (rdO p s S).setObj q x = rdO p s (S.setObj q x) := setObj_comm h

def ptrC (q o : Nat) : List AV := [.s (.pointer (some ⟨q, o, none⟩))]
def numsGo (offs : List Nat) (s : Rd) (l : List AV) : Rd × List AV := offs.foldl (fun (x : Rd × List AV) o => ((anyP x.1).2, splice x.2 o [int (anyP x.1).1])) (s, l)
theorem numsGo_snoc {offs : List Nat} {s : Rd} {l : List AV} {i : Nat} (h : i < offs.length) :
    numsGo (offs.take (i + 1)) s l = ((anyP (numsGo (offs.take i) s l).1).2, splice (numsGo (offs.take i) s l).2 offs[i] [int (anyP (numsGo (offs.take i) s l).1).1]) := by
  unfold numsGo
  rw [List.take_succ_eq_append_getElem h, List.foldl_append]
  rfl
theorem numsGo_len : ∀ (offs : List Nat) (s : Rd) (l : List AV), (∀ o ∈ offs, o + 1 ≤ l.length) → (numsGo offs s l).1.b.length ≤ s.b.length ∧ (numsGo offs s l).2.length = l.length := by
  intro offs
  induction offs with
  | nil => intro s l _; exact ⟨Nat.le_refl _, rfl⟩
  | cons o os ih =>
    intro s l h
    have h1 := h o (List.mem_cons_self ..)
    have hl : (splice l o [int (anyP s).1]).length = l.length := by unfold splice; simp; omega
    have := ih (anyP s).2 (splice l o [int (anyP s).1]) fun x hx => by rw [hl]; exact h x (List.mem_cons_of_mem _ hx)
    have h2 : (anyP s).2.b.length ≤ s.b.length := num_len s _ _
    rw [hl] at this
    exact ⟨Nat.le_trans this.1 h2, this.2⟩

theorem numbers_spec (p x : Nat) (hx : x ≠ p) (s : Rd) (S : Store) (l : List AV) (offs : List Nat) (hs : s.b.length ≤ 140737488355328) (ho : ∀ o ∈ offs, o + 1 ≤ l.length) (hl : offs.length ≤ 100) (h1 : S.obj p = some (.cells [byts s.b, int s.e])) (h2 : S.obj x = some (.cells l))
    (R : AV → Store → Prop) (h : R (.tup []) (rdO p (numsGo offs s l).1 (S.setObj x (.cells (numsGo offs s l).2)))) : ACalls Tryz.prog 26 [ptr p, lst 1 (ptrC x) offs] S R := by
  have e0 : S = rdO p s (S.setObj x (.cells l)) := by rw [setObj_get h2, rdO_id h1]
  rw [e0]
  refine ACalls.of_body (c := cfg 17) infoOK Tryz.func26 (by rfl) (by rfl) (by rfl) (by rfl) ?_
  refine AWp.loop (σ := Nat) ⟨fun i => [(0, .av (ptr p)), (6, .av (lst 1 (ptrC x) offs)), (7, .av (int (offs.length : Nat))), (8, .av (int (i : Nat)))], fun _ => [],
    fun i st' => i ≤ offs.length ∧ st' = rdO p (numsGo (offs.take i) s l).1 (S.setObj x (.cells (numsGo (offs.take i) s l).2)), fun i => offs.length - i⟩ infoOK ?_ ?_
  · refine ⟨0, trivial, ⟨Nat.zero_le _, rfl⟩, ⟨LV.le_refl _, LV.le_refl _, ?_, LV.le_refl _, trivial⟩, trivial⟩
    rw [← rws_len (f := ptrC x) offs]; exact LV.le_refl _
  rintro i st' ⟨hi, rfl⟩
  refine bcd (fun c1 => ?_) (fun c1 => ?_)
  rotate_left
  · have : i = offs.length := by omega
    subst this
    rw [List.take_length]
    exact ret h
  have hlt : i < offs.length := by omega
  have hsn := numsGo_snoc (s := s) (l := l) hlt
  have hgl := numsGo_len (offs.take i) s l fun o h => ho o (List.mem_of_mem_take h)
  have hoi := ho _ (List.getElem_mem hlt)
  generalize numsGo (offs.take i) s l = g at hsn hgl
  refine ⟨i, rfl, optK_intro _ (rws_get hlt) ?_⟩
  refine num_spec p g.1 (S.setObj x (.cells g.2)) 0 9223372036854775807 (by omega) _ ?_
  refine storeK_obj (i := ti3) (v := int (anyP g.1).1) (b := x) (o := offs[i]) (l := g.2) rfl rfl rfl (by rw [rdO_ne hx, setObj_self]) (by omega) ?_
  rw [rdO_swap hx, setObj_setObj]
  refine in64 (by omega) ?_
  refine ⟨i + 1, ?_, ⟨hlt, by rw [hsn]; rfl⟩, ⟨LV.le_refl _, LV.le_refl _, LV.le_refl _, LV.le_refl _, trivial⟩, trivial⟩
  show offs.length - (i + 1) < offs.length - i
  omega
end Go.Proofs
namespace Go.Proofs
open Go Go.V
set_option linter.unusedVariables false

theorem any_bd (s : Rd) : 0 ≤ (anyP s).1 ∧ (anyP s).1 < 9223372036854775808 := num_I64 s 0 9223372036854775807
theorem any_len (s : Rd) : (anyP s).2.b.length ≤ s.b.length := num_len s _ _
theorem signed_len (s : Rd) : (signedP s).2.b.length ≤ s.b.length := int_len s _ _

set_option maxHeartbeats 2000000 in
theorem unit_spec (p : Nat) (s : Rd) (S : Store) (hs : s.b.length ≤ 140737488355328) (h1 : S.obj p = some (.cells [byts s.b, int s.e])) (R : AV → Store → Prop) (h : R (.agg (untC (untP_ s).1)) (rdO p (untP_ s).2 S)) : ACalls Tryz.prog 31 [ptr p] S R := by
  have e1 : (untP_ s) = (⟨(anyP s).1, (anyP (anyP s).2).1, (anyP (anyP (anyP s).2).2).1, ((signedP (anyP (anyP (anyP s).2).2).2).1, (signedP (signedP (anyP (anyP (anyP s).2).2).2).2).1),
    (anyP (signedP (signedP (anyP (anyP (anyP s).2).2).2).2).2).1 - 1, (anyP (anyP (signedP (signedP (anyP (anyP (anyP s).2).2).2).2).2).2).1 - 1, (anyP (anyP (anyP (signedP (signedP (anyP (anyP (anyP s).2).2).2).2).2).2).2).1,
    (anyP (anyP (anyP (anyP (signedP (signedP (anyP (anyP (anyP s).2).2).2).2).2).2).2).2).1, (anyP (anyP (anyP (anyP (anyP (signedP (signedP (anyP (anyP (anyP s).2).2).2).2).2).2).2).2).2).1⟩,
    (anyP (anyP (anyP (anyP (anyP (signedP (signedP (anyP (anyP (anyP s).2).2).2).2).2).2).2).2).2).2) := rfl
  rw [e1] at h
  refine ACalls.of_body (c := cfg 34 [2] []) infoOK Tryz.func31 (by rfl) (by rfl) (by rfl) (by rfl) ?_
  intro x hx
  have hxp : x ≠ p := hx.ne_obj h1
  have hx0 : S.obj x = none := hx.1
  have e3 : ∀ l : List AV, numsGo [0, 1, 2] s l = ((anyP (anyP (anyP s).2).2).2, splice (splice (splice l 0 [int (anyP s).1]) 1 [int (anyP (anyP s).2).1]) 2 [int (anyP (anyP (anyP s).2).2).1]) := fun l => rfl
  have l1 := any_len s
  have l2 := any_len (anyP s).2
  have l3 := any_len (anyP (anyP s).2).2
  generalize (anyP s).1 = a1 at *
  generalize (anyP s).2 = s1 at *
  generalize (anyP s1).1 = a2 at *
  generalize (anyP s1).2 = s2 at *
  generalize (anyP s2).1 = a3 at *
  generalize (anyP s2).2 = s3 at *
  refine ⟨by decide, ?_⟩
  refine numbers_spec p x hxp s _ [int 0, int 0, int 0, int 0, int 0, int 0, int 0, int 0, int 0, int 0] [0, 1, 2] hs (by decide) (by decide) ((setObj_ne (Ne.symm hxp)).trans h1) (setObj_self _ _ _) _ ?_
  rw [e3, setObj_setObj]
  have l4 := signed_len s3
  have l5 := signed_len (signedP s3).2
  refine intr_spec p s3 _ (-4611686018427387904) 4611686018427387903 (by omega) _ ?_
  show vcSeq _ _ _ _ _ _ (rdO p (signedP s3).2 _)
  generalize ha4 : (signedP s3).1 = a4 at *
  have ha4' : (s3.int (-4611686018427387904) 4611686018427387903).1 = a4 := ha4
  rw [ha4']
  generalize (signedP s3).2 = s4 at *
  have c3 : splice (splice (splice [int 0, int 0, int 0, int 0, int 0, int 0, int 0, int 0, int 0, int 0] 0 [int a1]) 1 [int a2]) 2 [int a3] = [int a1, int a2, int a3, int 0, int 0, int 0, int 0, int 0, int 0, int 0] := rfl
  rw [c3]
  refine storeK_obj (i := ti2) (v := int a4) (b := x) (o := 3) (l := [int a1, int a2, int a3, int 0, int 0, int 0, int 0, int 0, int 0, int 0]) rfl rfl rfl (by rw [rdO_ne hxp, setObj_self]) (by simp) ?_
  rw [rdO_swap hxp, setObj_setObj]
  have c4 : splice [int a1, int a2, int a3, int 0, int 0, int 0, int 0, int 0, int 0, int 0] 3 [int a4] = [int a1, int a2, int a3, int a4, int 0, int 0, int 0, int 0, int 0, int 0] := rfl
  rw [c4]
  refine intr_spec p s4 _ (-4611686018427387904) 4611686018427387903 (by omega) _ ?_
  show vcSeq _ _ _ _ _ _ (rdO p (signedP s4).2 _)
  generalize ha5 : (signedP s4).1 = a5 at *
  have ha5' : (s4.int (-4611686018427387904) 4611686018427387903).1 = a5 := ha5
  rw [ha5']
  generalize (signedP s4).2 = s5 at *
  refine storeK_obj (i := ti2) (v := int a5) (b := x) (o := 4) (l := [int a1, int a2, int a3, int a4, int 0, int 0, int 0, int 0, int 0, int 0]) rfl rfl rfl (by rw [rdO_ne hxp, setObj_self]) (by simp) ?_
  rw [rdO_swap hxp, setObj_setObj]
  have c5 : splice [int a1, int a2, int a3, int a4, int 0, int 0, int 0, int 0, int 0, int 0] 4 [int a5] = [int a1, int a2, int a3, int a4, int a5, int 0, int 0, int 0, int 0, int 0] := rfl
  rw [c5]
  have e5 : ∀ l : List AV, numsGo [5, 6, 7, 8, 9] s5 l = ((anyP (anyP (anyP (anyP (anyP s5).2).2).2).2).2, splice (splice (splice (splice (splice l 5 [int (anyP s5).1]) 6 [int (anyP (anyP s5).2).1]) 7 [int (anyP (anyP (anyP s5).2).2).1]) 8 [int (anyP (anyP (anyP (anyP s5).2).2).2).1]) 9 [int (anyP (anyP (anyP (anyP (anyP s5).2).2).2).2).1]) := fun l => rfl
  have b6 := any_bd s5
  have b7 := any_bd (anyP s5).2
  generalize (anyP s5).1 = a6 at *
  generalize (anyP s5).2 = s6 at *
  generalize (anyP s6).1 = a7 at *
  generalize (anyP s6).2 = s7 at *
  generalize (anyP s7).1 = a8 at *
  generalize (anyP s7).2 = s8 at *
  generalize (anyP s8).1 = a9 at *
  generalize (anyP s8).2 = s9 at *
  generalize (anyP s9).1 = a10 at *
  generalize (anyP s9).2 = s10 at *
  refine ⟨by decide, ?_⟩
  refine numbers_spec p x hxp s5 _ [int a1, int a2, int a3, int a4, int a5, int 0, int 0, int 0, int 0, int 0] [5, 6, 7, 8, 9] (by omega) (by simp) (by decide) (rdO_get _ _ _) (by rw [rdO_ne hxp, setObj_self]) _ ?_
  rw [e5, rdO_swap hxp, rdO_rdO, setObj_setObj]
  have c6 : splice (splice (splice (splice (splice [int a1, int a2, int a3, int a4, int a5, int 0, int 0, int 0, int 0, int 0] 5 [int a6]) 6 [int a7]) 7 [int a8]) 8 [int a9]) 9 [int a10] = [int a1, int a2, int a3, int a4, int a5, int a6, int a7, int a8, int a9, int a10] := rfl
  rw [c6]
  have ox : ∀ (t : Rd) (l : List AV), (rdO p t (S.setObj x (.cells l))).obj x = some (.cells l) := fun t l => by rw [rdO_ne hxp, setObj_self]
  refine optK_intro _ (ox _ _) ?_
  refine in64 (by omega) ?_
  refine optK_intro _ (ox _ _) ?_
  refine in64 (by omega) ?_
  refine storeK_obj (i := ti3) (v := int (a6 - 1)) (b := x) (o := 5) (l := [int a1, int a2, int a3, int a4, int a5, int a6, int a7, int a8, int a9, int a10]) rfl rfl rfl (ox _ _) (by simp) ?_
  rw [rdO_swap hxp, setObj_setObj]
  refine storeK_obj (i := ti3) (v := int (a7 - 1)) (b := x) (o := 6) (l := [int a1, int a2, int a3, int a4, int a5, int (a6 - 1), int a7, int a8, int a9, int a10]) rfl rfl rfl (ox _ _) (by simp) ?_
  rw [rdO_swap hxp, setObj_setObj]
  have c7 : splice [int a1, int a2, int a3, int a4, int a5, int (a6 - 1), int a7, int a8, int a9, int a10] 6 [int (a7 - 1)] = [int a1, int a2, int a3, int a4, int a5, int (a6 - 1), int (a7 - 1), int a8, int a9, int a10] := rfl
  rw [c7]
  refine optK_intro _ (ox _ _) ?_
  refine storeK_objL (i := ti70) (v := .agg [int a1, int a2, int a3, int a4, int a5, int (a6 - 1), int (a7 - 1), int a8, int a9, int a10]) (xs := [int a1, int a2, int a3, int a4, int a5, int (a6 - 1), int (a7 - 1), int a8, int a9, int a10]) (b := x) (o := 0) (l := [int a1, int a2, int a3, int a4, int a5, int (a6 - 1), int (a7 - 1), int a8, int a9, int a10]) rfl rfl rfl (ox _ _) (by simp) ?_
  rw [rdO_swap hxp, setObj_setObj]
  exact optK_intro _ (ox _ _) (retR h (has_setObj2 (has_setObj hx0)) (AV.le_refl _))
end Go.Proofs
namespace Go.Proofs
open Go Go.V
set_option linter.unusedVariables false

theorem _root_.Go.V.RowsO.other {α : Type} {k : Nat} {f : α → List AV} {S : Store} {v : AV} {l : List α} (h : RowsO k f S v l) {x : Nat} (hx : ∀ b n c, v = .s (.slice (some ⟨b, 0, none⟩) n c) → b ≠ x) (y : AObj) : RowsO k f (S.setObj x y) v l := by
  rcases h with h | ⟨b, cap, L, rfl, ho, h2⟩
  · exact .inl h
  · exact .inr ⟨b, cap, L, rfl, by rw [setObj_ne (hx b _ _ rfl)]; exact ho, h2⟩
theorem _root_.Go.V.RowsO.blk {α : Type} {k : Nat} {f : α → List AV} {S : Store} {v : AV} {l : List α} (h : RowsO k f S v l) {b n c : Nat} (e : v = .s (.slice (some ⟨b, 0, none⟩) n c)) : ∃ y, S.obj b = some y := by
  rcases h with ⟨rfl, _⟩ | ⟨b', cap, L, rfl, ho, _⟩
  · cases e
  · cases e; exact ⟨_, ho⟩

/-- What Parse holds: its reader, the world as far as it is read. -/
structure PSt (S : Store) (p q : Nat) (s : Rd) (cs : List AV) (vB : AV) (B : List Bld) (vU : AV) (U : List Unt) : Prop where
  hp : S.obj p = some (.cells [byts s.b, int s.e])
  hq : S.obj q = some (.cells (cs ++ [vB, vU]))
  ne : q ≠ p
  rB : RowsO 6 bldC S vB B
  rU : RowsO 10 untC S vU U
  nB : ∀ b n c, vB = .s (.slice (some ⟨b, 0, none⟩) n c) → b ≠ p ∧ b ≠ q
  nU : ∀ b n c, vU = .s (.slice (some ⟨b, 0, none⟩) n c) → b ≠ p ∧ b ≠ q
  nBU : ∀ b n c b' n' c', vB = .s (.slice (some ⟨b, 0, none⟩) n c) → vU = .s (.slice (some ⟨b', 0, none⟩) n' c') → b ≠ b'

section
variable {S : Store} {p q : Nat} {s : Rd} {cs : List AV} {vB vU : AV} {B : List Bld} {U : List Unt}
theorem PSt.rd (h : PSt S p q s cs vB B vU U) (t : Rd) : PSt (rdO p t S) p q t cs vB B vU U :=
  ⟨rdO_get p t S, by rw [rdO_ne h.ne]; exact h.hq, h.ne, h.rB.other (fun b n c e => (h.nB b n c e).1) _, h.rU.other (fun b n c e => (h.nU b n c e).1) _, h.nB, h.nU, h.nBU⟩
theorem PSt.cell (h : PSt S p q s cs vB B vU U) (cs' : List AV) : PSt (S.setObj q (.cells (cs' ++ [vB, vU]))) p q s cs' vB B vU U :=
  ⟨by rw [setObj_ne (Ne.symm h.ne)]; exact h.hp, setObj_self _ _ _, h.ne, h.rB.other (fun b n c e => (h.nB b n c e).2) _, h.rU.other (fun b n c e => (h.nU b n c e).2) _, h.nB, h.nU, h.nBU⟩
theorem PSt.add (h : PSt S p q s cs vB B vU U) {x : Nat} (hx : Fresh S x) (y : AObj) : PSt (S.setObj x y) p q s cs vB B vU U :=
  ⟨by rw [setObj_ne (Ne.symm (hx.ne_obj h.hp))]; exact h.hp, by rw [setObj_ne (Ne.symm (hx.ne_obj h.hq))]; exact h.hq, h.ne,
    h.rB.other (fun b n c e => by obtain ⟨y, hy⟩ := h.rB.blk e; exact Ne.symm (hx.ne_obj hy)) _, h.rU.other (fun b n c e => by obtain ⟨y, hy⟩ := h.rU.blk e; exact Ne.symm (hx.ne_obj hy)) _, h.nB, h.nU, h.nBU⟩
theorem PSt.appB (h : PSt S p q s cs vB B vU U) {b cap : Nat} {L : List AV} {x : Bld} (hb : Fresh S b ∨ ∃ c0, vB = .s (.slice (some ⟨b, 0, none⟩) B.length c0))
    (h1 : (B ++ [x]).length ≤ cap) (h2 : cap * 6 ≤ (B ++ [x]).length * 6 + L.length) (h3 : cap ≤ 9223372036854775807) :
    PSt ((S.setObj b (.cells ((rws bldC (B ++ [x])).flatten ++ L))).setObj q (.cells (cs ++ [.s (.slice (some ⟨b, 0, none⟩) (B ++ [x]).length cap), vU]))) p q s cs (.s (.slice (some ⟨b, 0, none⟩) (B ++ [x]).length cap)) (B ++ [x]) vU U := by
  have hbp : b ≠ p ∧ b ≠ q := by
    rcases hb with hb | ⟨c0, hb⟩
    · exact ⟨hb.ne_obj h.hp, hb.ne_obj h.hq⟩
    · exact h.nB b _ _ hb
  have hbU : ∀ b' n c, vU = .s (.slice (some ⟨b', 0, none⟩) n c) → b ≠ b' := fun b' n c e => by
    rcases hb with hb | ⟨c0, hb⟩
    · obtain ⟨y, hy⟩ := h.rU.blk e; exact hb.ne_obj hy
    · exact h.nBU _ _ _ _ _ _ hb e
  refine ⟨by rw [setObj_ne (Ne.symm h.ne), setObj_ne (Ne.symm hbp.1)]; exact h.hp, setObj_self _ _ _, h.ne, .inr ⟨b, cap, L, rfl, by rw [setObj_ne hbp.2, setObj_self], h1, h2, h3⟩,
    (h.rU.other (fun b' n c e => Ne.symm (hbU b' n c e)) _).other (fun b' n c e => (h.nU b' n c e).2) _, fun b' n c e => ?_, h.nU, fun b' n c b2 n2 c2 e e2 => ?_⟩
  · cases e; exact hbp
  · cases e; exact hbU _ _ _ e2
theorem PSt.appU (h : PSt S p q s cs vB B vU U) {b cap : Nat} {L : List AV} {x : Unt} (hb : Fresh S b ∨ ∃ c0, vU = .s (.slice (some ⟨b, 0, none⟩) U.length c0))
    (h1 : (U ++ [x]).length ≤ cap) (h2 : cap * 10 ≤ (U ++ [x]).length * 10 + L.length) (h3 : cap ≤ 9223372036854775807) :
    PSt ((S.setObj b (.cells ((rws untC (U ++ [x])).flatten ++ L))).setObj q (.cells (cs ++ [vB, .s (.slice (some ⟨b, 0, none⟩) (U ++ [x]).length cap)]))) p q s cs vB B (.s (.slice (some ⟨b, 0, none⟩) (U ++ [x]).length cap)) (U ++ [x]) := by
  have hbp : b ≠ p ∧ b ≠ q := by
    rcases hb with hb | ⟨c0, hb⟩
    · exact ⟨hb.ne_obj h.hp, hb.ne_obj h.hq⟩
    · exact h.nU b _ _ hb
  have hbB : ∀ b' n c, vB = .s (.slice (some ⟨b', 0, none⟩) n c) → b' ≠ b := fun b' n c e => by
    rcases hb with hb | ⟨c0, hb⟩
    · obtain ⟨y, hy⟩ := h.rB.blk e; exact Ne.symm (hb.ne_obj hy)
    · exact h.nBU _ _ _ _ _ _ e hb
  refine ⟨by rw [setObj_ne (Ne.symm h.ne), setObj_ne (Ne.symm hbp.1)]; exact h.hp, setObj_self _ _ _, h.ne,
    (h.rB.other (fun b' n c e => hbB b' n c e) _).other (fun b' n c e => (h.nB b' n c e).2) _, .inr ⟨b, cap, L, rfl, by rw [setObj_ne hbp.2, setObj_self], h1, h2, h3⟩, h.nB, fun b' n c e => ?_, fun b' n c b2 n2 c2 e e2 => ?_⟩
  · cases e; exact hbp
  · cases e2; exact hbB _ _ _ e
end

theorem rows_some {α : Type} {k : Nat} {f : α → List AV} {S : Store} {v : AV} {l : List α} (h : RowsO k f S v l) : cellsOf v = some [v] ∧ v.one = true := by
  rcases h with ⟨rfl, _⟩ | ⟨b, cap, L, rfl, _⟩ <;> exact ⟨rfl, rfl⟩

theorem bld_go (s : Rd) : numsGo [0, 1, 2, 3, 4, 5] s [int 0, int 0, int 0, int 0, int 0, int 0] = ((bldP_ s).2, bldC (bldP_ s).1) := rfl
theorem bld_len (s : Rd) : (bldP_ s).2.b.length ≤ s.b.length := bld_PL.len s
theorem unt_len (s : Rd) : (untP_ s).2.b.length ≤ s.b.length := unt_PL.len s
theorem bldC_len (b : Bld) : (bldC b).length = 6 := rfl
theorem bldC_s (u : Bld) : ∀ y ∈ bldC u, ∃ x, y = AV.s x ∧ oneCell x = true := by
  intro y hy
  simp [bldC] at hy
  rcases hy with rfl | rfl | rfl | rfl | rfl | rfl <;> exact ⟨_, rfl, rfl⟩
end Go.Proofs
namespace Go.Proofs
open Go Go.V
set_option linter.unusedVariables false

theorem onRd {f : FuncId} {xs : List AV} {S : Store} {p : Nat} {s : Rd} {R : AV → Store → Prop} (h : S.obj p = some (.cells [byts s.b, int s.e])) (k : ACalls Tryz.prog f xs (rdO p s S) R) : ACalls Tryz.prog f xs S R := by
  rw [rdO_id h] at k; exact k

def z6 : List AV := [int 0, int 0, int 0, int 0, int 0, nil]
def wldVV (w : Wld) (vB vU : AV) : List AV := [int w.tick, int w.players, int w.next, int w.G.W, int w.G.H, byts w.G.T, vB, vU]
def PostP (b : List UInt8) (r : AV) (S : Store) : Prop :=
  (imgE b ≠ 0 ∧ r = .tup [.agg (z6 ++ [nil, nil]), int (imgE b)]) ∨ (imgE b = 0 ∧ ¬ mayP (imgW b) ∧ r = .tup [.agg (z6 ++ [nil, nil]), int 1]) ∨
  (imgE b = 0 ∧ mayP (imgW b) ∧ ∃ vB vU, RowsO 6 bldC S vB (imgW b).B ∧ RowsO 10 untC S vU (imgW b).U ∧ r = .tup [.agg (wldVV (imgW b) vB vU), int 0])

theorem wldVV_borrow {st : Store} {w : Wld} {vB vU : AV} (hB : RowsO 6 bldC st vB w.B) (hU : RowsO 10 untC st vU w.U) {Oth M : Nat → Nat → Prop} {W : World} (sto : StoreOK st Oth M W) {x : Value} (hx : VRel W (fun b o => M b o ∨ Oth b o) (.agg (wldVV w vB vU)) x) :
    VRel W (fun b o => (M b o ∨ Oth b o) ∧ st.obj b = none) (.agg (wldC w)) x := by
  cases hx with
  | agg _ c hl hc =>
    refine .agg _ c hl fun i x y hx hy => ?_
    match i with
    | 0 => simp only [wldC, List.getElem?_cons_zero, Option.some.injEq] at hx; subst hx; exact mono_borrow (hc 0 _ y rfl hy)
    | 1 => simp only [wldC, List.getElem?_cons_succ, List.getElem?_cons_zero, Option.some.injEq] at hx; subst hx; exact mono_borrow (hc 1 _ y rfl hy)
    | 2 => simp only [wldC, List.getElem?_cons_succ, List.getElem?_cons_zero, Option.some.injEq] at hx; subst hx; exact mono_borrow (hc 2 _ y rfl hy)
    | 3 => simp only [wldC, List.getElem?_cons_succ, List.getElem?_cons_zero, Option.some.injEq] at hx; subst hx; exact mono_borrow (hc 3 _ y rfl hy)
    | 4 => simp only [wldC, List.getElem?_cons_succ, List.getElem?_cons_zero, Option.some.injEq] at hx; subst hx; exact mono_borrow (hc 4 _ y rfl hy)
    | 5 => simp only [wldC, List.getElem?_cons_succ, List.getElem?_cons_zero, Option.some.injEq] at hx; subst hx; exact mono_borrow (hc 5 _ y rfl hy)
    | 6 => simp only [wldC, List.getElem?_cons_succ, List.getElem?_cons_zero, Option.some.injEq] at hx; subst hx; exact hB.borrow bldC_len bldC_s sto (hc 6 _ y rfl hy)
    | 7 => simp only [wldC, List.getElem?_cons_succ, List.getElem?_cons_zero, Option.some.injEq] at hx; subst hx; exact hU.borrow untC_len untC_s sto (hc 7 _ y rfl hy)
    | i + 8 => simp [wldC] at hx

theorem mayVV_spec {g : Store} {w : Wld} {vB vU : AV} (hB : RowsO 6 bldC g vB w.B) (hU : RowsO 10 untC g vU w.U) (hw : w.fits) (hn : ∀ u ∈ w.U, u.pos.ok) (R : AV → Store → Prop) (h : ∀ z : Bool, (z = true ↔ mayP w) → R (V.bool z) g) : ACalls Tryz.prog 36 [.agg (wldVV w vB vU)] g R :=
  ACalls.read (ys := [.agg (wldC w)]) (Q := fun r => ∃ z : Bool, r = V.bool z ∧ (z = true ↔ mayP w)) (fun Oth M W vs sto hr => by
    obtain ⟨x, rfl, h1⟩ := reads1 hr
    exact Reads.cons (wldVV_borrow hB hU sto h1) Reads.nil) (may_spec w hw hn _ _ fun z hz => ⟨z, rfl, hz⟩) (fun r ⟨z, e, _⟩ => e ▸ flat_s _) (fun r ⟨z, e, hz⟩ => e ▸ h z hz)

set_option maxHeartbeats 4000000 in
set_option maxRecDepth 20000 in
theorem iparse_key (b : List UInt8) (hb : b.length ≤ 1048576) (R : AV → Store → Prop) (fin : ∀ r S, PostP b r S → R r S) : ACalls Tryz.prog 11 [byts b] Store.empty R := by
  have eS : imgS b = (cntP 4096 untP_ (cntP 256 bldP_ (gndR (anyP (anyP (anyP (Rd.same ⟨b, 0⟩ [84, 87])).2).2).2).2).2).2 := rfl
  have eW : imgW b = ⟨(anyP (Rd.same ⟨b, 0⟩ [84, 87])).1, (anyP (anyP (Rd.same ⟨b, 0⟩ [84, 87])).2).1, (anyP (anyP (anyP (Rd.same ⟨b, 0⟩ [84, 87])).2).2).1, (gndR (anyP (anyP (anyP (Rd.same ⟨b, 0⟩ [84, 87])).2).2).2).1,
    (cntP 256 bldP_ (gndR (anyP (anyP (anyP (Rd.same ⟨b, 0⟩ [84, 87])).2).2).2).2).1, (cntP 4096 untP_ (cntP 256 bldP_ (gndR (anyP (anyP (anyP (Rd.same ⟨b, 0⟩ [84, 87])).2).2).2).2).2).1⟩ := rfl
  refine ACalls.of_awp (c := cfg 132 [4, 10, 14, 16] []) infoOK Tryz.func11 (by rfl) (by rfl) (by rfl) (by rfl) ?_
  refine AWp.seq (AWp.of_vc infoOK ?_)
  refine AWp.seq (AWp.of_vc infoOK ?_)
  intro q hq
  refine AWp.seq (AWp.of_vc infoOK ?_)
  intro p hp
  have hqp : q ≠ p := fun e => by have := hp.1; rw [← e, setObj_self] at this; cases this
  change AWp _ _ _ _ _ (rdO p ⟨b, 0⟩ (Store.empty.setObj q (.cells (z6 ++ [nil, nil]))))
  have P0 : PSt (rdO p ⟨b, 0⟩ (Store.empty.setObj q (.cells (z6 ++ [nil, nil])))) p q ⟨b, 0⟩ z6 nil [] nil [] :=
    ⟨rdO_get _ _ _, by rw [rdO_ne hqp, setObj_self], hqp, .inl ⟨rfl, rfl⟩, .inl ⟨rfl, rfl⟩, fun _ _ _ e => (by cases e), fun _ _ _ e => (by cases e), fun _ _ _ _ _ _ e => (by cases e)⟩
  clear hp hq
  generalize rdO p ⟨b, 0⟩ (Store.empty.setObj q (.cells (z6 ++ [nil, nil]))) = S0 at P0 ⊢
  refine AWp.seq (AWp.of_vc infoOK ?_)
  refine ⟨by decide, fun tk htk => ?_⟩
  refine optR (optR (optR (optK_intro _ (setTok_self _ _ _) ?_)))
  refine ACalls.drop (st' := S0) (has_tok htk.2) ?_
  refine onRd P0.hp (same_spec p ⟨b, 0⟩ S0 [84, 87] (AV.le_tok _ _ _) (by simp) _ ?_)
  have l1 := same_len ⟨b, 0⟩ [84, 87]
  dsimp only at l1
  generalize Rd.same ⟨b, 0⟩ [84, 87] = s1 at *
  have P1 := P0.rd s1
  generalize rdO p s1 S0 = S1 at P1 ⊢
  clear P0
  have e3 : ∀ l : List AV, numsGo [0, 1, 2] s1 l = ((anyP (anyP (anyP s1).2).2).2, splice (splice (splice l 0 [int (anyP s1).1]) 1 [int (anyP (anyP s1).2).1]) 2 [int (anyP (anyP (anyP s1).2).2).1]) := fun l => rfl
  have l2 := any_len s1
  have l3 := any_len (anyP s1).2
  have l4 := any_len (anyP (anyP s1).2).2
  generalize (anyP s1).1 = a1 at *
  generalize (anyP s1).2 = s2 at *
  generalize (anyP s2).1 = a2 at *
  generalize (anyP s2).2 = s3 at *
  generalize (anyP s3).1 = a3 at *
  generalize (anyP s3).2 = s4 at *
  refine AWp.seq (AWp.of_vc infoOK ?_)
  refine ⟨by decide, ?_⟩
  refine numbers_spec p q hqp s1 S1 (z6 ++ [nil, nil]) [0, 1, 2] (by omega) (by decide) (by decide) P1.hp P1.hq _ ?_
  rw [e3]
  dsimp only
  have c3 : splice (splice (splice (z6 ++ [nil, nil]) 0 [int a1]) 1 [int a2]) 2 [int a3] = [int a1, int a2, int a3, int 0, int 0, nil] ++ [nil, nil] := rfl
  rw [c3]
  have P2 := (P1.cell [int a1, int a2, int a3, int 0, int 0, nil]).rd s4
  generalize rdO p s4 (S1.setObj q _) = S2 at P2 ⊢
  clear P1
  have lg := gnd_PL.len s4
  have gbad : s4.raw.2.e ≠ 0 → gndR s4 = (⟨0, 0, []⟩, s4.raw.2) := fun he => by unfold gndR; rw [if_neg he]
  have gok : s4.raw.2.e = 0 → gndR s4 = ((mapParse s4.raw.1).1, s4.raw.2.must (decide ((mapParse s4.raw.1).2 = 0))) := fun he => by unfold gndR; rw [if_pos he]
  have hrl : s4.raw.1.length ≤ 1048576 := by
    unfold Rd.raw
    split
    · simp
    · simp only
      unfold getRaw
      split
      · simp
      · split
        · simp
        · split
          · simp
          · simp only [List.length_take]; omega
  generalize gndR s4 = g at *
  refine AWp.seq (AWp.of_vc infoOK ?_)
  refine onRd P2.hp (rawr_spec p s4 S2 (by omega) _ ?_)
  have P3 := P2.rd s4.raw.2
  generalize rdO p s4.raw.2 S2 = S3 at P3 ⊢
  clear P2
  refine AWp.meetA (σ := Store × AV) ⟨fun _ => [(0, .av (byts b)), (2, .bx 2 0), (4, .av (ptr q)), (5, .av (ptr p))], fun _ => [(2, z6 ++ [nil, nil])], fun x S => S = x.1 ∧ PSt x.1 p q g.2 [int a1, int a2, int a3, int g.1.W, int g.1.H, x.2] nil [] nil [] ∧ (x.2 = byts g.1.T ∨ (x.2 = nil ∧ g.1.T = []))⟩ ?_ ?_
  · refine AWp.of_vc infoOK ?_
    refine optK_intro _ P3.hp ?_
    refine bceq (fun c1 => ?_) (fun c1 => ?_)
    rotate_left
    · have eg := gbad c1
      subst eg
      exact ⟨(S3, nil), ⟨rfl, P3, .inr ⟨rfl, rfl⟩⟩, ⟨LV.le_refl _, LV.le_refl _, LV.le_refl _, LV.le_refl _, trivial⟩, ⟨rfl, trivial⟩⟩
    have eg := gok c1
    refine mapParse_spec s4.raw.1 hrl _ _ ?_
    generalize (mapParse s4.raw.1).1 = m at *
    generalize (mapParse s4.raw.1).2 = me at *
    refine storeK_objL (i := ti26) (v := .agg (gndC m)) (xs := gndC m) (b := q) (o := 3) (l := [int a1, int a2, int a3, int 0, int 0, nil] ++ [nil, nil]) rfl rfl rfl P3.hq (by show 3 + 3 ≤ 8; decide) ?_
    have c4 : splice ([int a1, int a2, int a3, int 0, int 0, nil] ++ [nil, nil]) 3 (gndC m) = [int a1, int a2, int a3, int m.W, int m.H, byts m.T] ++ [nil, nil] := rfl
    rw [c4]
    have P4 := P3.cell [int a1, int a2, int a3, int m.W, int m.H, byts m.T]
    generalize S3.setObj q _ = S4 at P4 ⊢
    refine onRd P4.hp (must_spec p s4.raw.2 S4 (me == 0) _ ?_)
    have e0 : (me == 0) = decide (me = 0) := beqD _ _
    rw [e0]
    have P5 := P4.rd (s4.raw.2.must (decide (me = 0)))
    generalize rdO p (s4.raw.2.must (decide (me = 0))) S4 = S5 at P5 ⊢
    have eg1 : g.1 = m := by rw [eg]
    have eg2 : g.2 = s4.raw.2.must (decide (me = 0)) := by rw [eg]
    rw [← eg2, ← eg1] at P5
    exact ⟨(S5, byts g.1.T), ⟨rfl, P5, .inl rfl⟩, ⟨LV.le_refl _, LV.le_refl _, LV.le_refl _, LV.le_refl _, trivial⟩, ⟨rfl, trivial⟩⟩
  rintro ⟨S6, vT⟩ S6' ⟨rfl, P6, hvT⟩
  dsimp only at P6 hvT ⊢
  clear gbad gok hrl P3
  have lB := (cnt_PL bld_PL (hi := 256) (by decide)).len g.2
  have hBn := num_I64 g.2 0 256
  have hBe : (g.2.num 0 256).2.e = 0 → (g.2.num 0 256).1 ≤ 256 := fun h => (num_put h).2.2.2
  have lBn := num_len g.2 0 256
  have eB : Rd.repGo bldP_ (g.2.num 0 256).1.toNat (g.2.num 0 256).2 [] = cntP 256 bldP_ g.2 := rfl
  generalize cntP 256 bldP_ g.2 = cB at *
  refine AWp.meetA (σ := Store × AV) ⟨fun _ => [(0, .av (byts b)), (2, .bx 2 0), (4, .av (ptr q)), (5, .av (ptr p))], fun _ => [(2, z6 ++ [nil, nil])], fun x S => S = x.1 ∧ PSt x.1 p q cB.2 [int a1, int a2, int a3, int g.1.W, int g.1.H, vT] x.2 cB.1 nil []⟩ ?_ ?_
  · refine AWp.seq (AWp.of_vc infoOK ?_)
    refine onRd P6.hp (num_spec p g.2 _ 0 256 (by omega) _ ?_)
    have P7 := P6.rd (g.2.num 0 256).2
    generalize rdO p (g.2.num 0 256).2 _ = S7 at P7 ⊢
    clear P6
    generalize (g.2.num 0 256).1 = n7 at *
    generalize (g.2.num 0 256).2 = s7 at *
    refine AWp.of_vc infoOK ?_
    refine AWp.loop (σ := Int × Store × Rd × AV × List Bld) ⟨fun x => [(0, .av (byts b)), (2, .bx 2 0), (4, .av (ptr q)), (5, .av (ptr p)), (9, .av (int x.1))], fun _ => [(2, z6 ++ [nil, nil])],
      fun x S => S = x.2.1 ∧ PSt x.2.1 p q x.2.2.1 [int a1, int a2, int a3, int g.1.W, int g.1.H, vT] x.2.2.2.1 x.2.2.2.2 nil [] ∧ Rd.repGo bldP_ x.1.toNat x.2.2.1 x.2.2.2.2 = cB ∧ (0 ≤ x.1 ∧ x.1 < 9223372036854775808) ∧ x.2.2.1.b.length ≤ b.length ∧ (x.2.2.1.e = 0 → x.1 + x.2.2.2.2.length ≤ 256), fun x => x.1.toNat⟩ infoOK ?_ ?_
    · exact ⟨(n7, S7, s7, nil, []), trivial, ⟨rfl, P7, eB, hBn, by dsimp only; omega, fun h => by simpa using hBe h⟩, ⟨LV.le_refl _, LV.le_refl _, LV.le_refl _, LV.le_refl _, LV.le_refl _, trivial⟩, ⟨rfl, trivial⟩⟩
    clear P7 hBn hBe eB lBn
    rintro ⟨n, S, s, vB, l⟩ S' ⟨rfl, P, hg, hn, hsl, hne⟩
    dsimp only at P hg hn hsl hne ⊢
    have stop : (n = 0 ∨ s.e ≠ 0) → (l, s) = cB := fun hh => by
      rw [← hg]
      rcases hh with rfl | hh
      · rfl
      · rw [repGo_bad hh]
    refine bcd (fun c1 => ?_) (fun c1 => ?_)
    rotate_left
    · have := stop (.inl (by omega))
      subst this
      exact ⟨(_, vB), ⟨rfl, P⟩, ⟨LV.le_refl _, LV.le_refl _, LV.le_refl _, LV.le_refl _, trivial⟩, ⟨rfl, trivial⟩⟩
    refine optK_intro _ P.hp ?_
    refine bceq (fun c2 => ?_) (fun c2 => ?_)
    rotate_left
    · have := stop (.inr c2)
      subst this
      exact ⟨(_, vB), ⟨rfl, P⟩, ⟨LV.le_refl _, LV.le_refl _, LV.le_refl _, LV.le_refl _, trivial⟩, ⟨rfl, trivial⟩⟩
    have hle := hne c2
    obtain ⟨k, rfl⟩ : ∃ k : Nat, n = (k : Int) + 1 := ⟨(n - 1).toNat, by omega⟩
    have e1 : ((k : Int) + 1).toNat = k + 1 := by omega
    rw [e1, repGo_ok c2] at hg
    intro x hx
    have hxp := hx.ne_obj P.hp
    refine ⟨by decide, ?_⟩
    have lx := bld_len s
    have P2 := P.add hx (.cells [int 0, int 0, int 0, int 0, int 0, int 0])
    refine numbers_spec p x hxp s _ [int 0, int 0, int 0, int 0, int 0, int 0] [0, 1, 2, 3, 4, 5] (by omega) (by decide) (by decide) P2.hp (setObj_self _ _ _) _ ?_
    rw [bld_go, setObj_setObj]
    dsimp only
    have P3 := (P.add hx (.cells (bldC (bldP_ s).1))).rd (bldP_ s).2
    have hxo : (rdO p (bldP_ s).2 (S'.setObj x (.cells (bldC (bldP_ s).1)))).obj x = some (.cells (bldC (bldP_ s).1)) := by rw [rdO_ne hxp, setObj_self]
    generalize rdO p (bldP_ s).2 (S'.setObj x (.cells (bldC (bldP_ s).1))) = S3 at P3 hxo ⊢
    clear P2
    generalize (bldP_ s).1 = bx at *
    generalize (bldP_ s).2 = sx at *
    refine optK_intro _ P3.hq ?_
    refine optK_intro _ hxo ?_
    refine ⟨by decide, ?_⟩
    refine appRows (ie := ti66) rfl bldC_len (by decide) P3.rB bx rfl (by omega) (fun bb cap L q1 q2 q3 q4 => ?_)
    have hbq : bb ≠ q := by
      rcases q1 with q1 | ⟨c0, q1⟩
      · exact q1.ne_obj P3.hq
      · exact (P3.nB bb _ _ q1).2
    refine storeK_obj (i := ti27) (v := .s (.slice (some ⟨bb, 0, none⟩) (l ++ [bx]).length cap)) (b := q) (o := 6) (l := [int a1, int a2, int a3, int g.1.W, int g.1.H, vT] ++ [vB, nil]) rfl rfl rfl (by rw [setObj_ne (Ne.symm hbq)]; exact P3.hq) (by simp) ?_
    have P4 := P3.appB q1 q2 q3 q4
    have c6 : splice ([int a1, int a2, int a3, int g.1.W, int g.1.H, vT] ++ [vB, nil]) 6 [.s (.slice (some ⟨bb, 0, none⟩) (l ++ [bx]).length cap)] = [int a1, int a2, int a3, int g.1.W, int g.1.H, vT] ++ [.s (.slice (some ⟨bb, 0, none⟩) (l ++ [bx]).length cap), nil] := rfl
    rw [c6]
    generalize (S3.setObj bb _).setObj q _ = S4 at P4 ⊢
    refine in64 (by omega) ?_
    refine ⟨((k : Int) + 1 - 1, S4, sx, _, l ++ [bx]), ?_, ⟨rfl, P4, ?_, by dsimp only; omega, by dsimp only; omega, fun _ => ?_⟩, ⟨LV.le_refl _, LV.le_refl _, LV.le_refl _, LV.le_refl _, LV.le_refl _, trivial⟩, ⟨rfl, trivial⟩⟩
    · show ((k : Int) + 1 - 1).toNat < ((k : Int) + 1).toNat
      omega
    · dsimp only
      rw [show ((k : Int) + 1 - 1).toNat = k by omega]
      exact hg
    · dsimp only
      rw [List.length_append, List.length_singleton]
      push_cast
      omega
  rintro ⟨S8, vB⟩ S8' ⟨rfl, P8⟩
  dsimp only at P8 ⊢
  have lU := (cnt_PL unt_PL (hi := 4096) (by decide)).len cB.2
  have hUn := num_I64 cB.2 0 4096
  have hUe : (cB.2.num 0 4096).2.e = 0 → (cB.2.num 0 4096).1 ≤ 4096 := fun h => (num_put h).2.2.2
  have lUn := num_len cB.2 0 4096
  have eU : Rd.repGo untP_ (cB.2.num 0 4096).1.toNat (cB.2.num 0 4096).2 [] = cntP 4096 untP_ cB.2 := rfl
  generalize cntP 4096 untP_ cB.2 = cU at *
  refine AWp.meetA (σ := Store × AV) ⟨fun _ => [(0, .av (byts b)), (2, .bx 2 0), (4, .av (ptr q)), (5, .av (ptr p))], fun _ => [(2, z6 ++ [nil, nil])], fun x S => S = x.1 ∧ PSt x.1 p q cU.2 [int a1, int a2, int a3, int g.1.W, int g.1.H, vT] vB cB.1 x.2 cU.1⟩ ?_ ?_
  · refine AWp.seq (AWp.of_vc infoOK ?_)
    refine onRd P8.hp (num_spec p cB.2 _ 0 4096 (by omega) _ ?_)
    have P9 := P8.rd (cB.2.num 0 4096).2
    generalize rdO p (cB.2.num 0 4096).2 _ = S9 at P9 ⊢
    clear P8
    generalize (cB.2.num 0 4096).1 = n9 at *
    generalize (cB.2.num 0 4096).2 = s9 at *
    refine AWp.of_vc infoOK ?_
    refine AWp.loop (σ := Int × Store × Rd × AV × List Unt) ⟨fun x => [(0, .av (byts b)), (2, .bx 2 0), (4, .av (ptr q)), (5, .av (ptr p)), (11, .av (int x.1))], fun _ => [(2, z6 ++ [nil, nil])],
      fun x S => S = x.2.1 ∧ PSt x.2.1 p q x.2.2.1 [int a1, int a2, int a3, int g.1.W, int g.1.H, vT] vB cB.1 x.2.2.2.1 x.2.2.2.2 ∧ Rd.repGo untP_ x.1.toNat x.2.2.1 x.2.2.2.2 = cU ∧ (0 ≤ x.1 ∧ x.1 < 9223372036854775808) ∧ x.2.2.1.b.length ≤ b.length ∧ (x.2.2.1.e = 0 → x.1 + x.2.2.2.2.length ≤ 4096), fun x => x.1.toNat⟩ infoOK ?_ ?_
    · exact ⟨(n9, S9, s9, nil, []), trivial, ⟨rfl, P9, eU, hUn, by dsimp only; omega, fun h => by simpa using hUe h⟩, ⟨LV.le_refl _, LV.le_refl _, LV.le_refl _, LV.le_refl _, LV.le_refl _, trivial⟩, ⟨rfl, trivial⟩⟩
    clear P9 hUn hUe eU lUn
    rintro ⟨n, S, s, vU, l⟩ S' ⟨rfl, P, hg, hn, hsl, hne⟩
    dsimp only at P hg hn hsl hne ⊢
    have stop : (n = 0 ∨ s.e ≠ 0) → (l, s) = cU := fun hh => by
      rw [← hg]
      rcases hh with rfl | hh
      · rfl
      · rw [repGo_bad hh]
    refine bcd (fun c1 => ?_) (fun c1 => ?_)
    rotate_left
    · have := stop (.inl (by omega))
      subst this
      exact ⟨(_, vU), ⟨rfl, P⟩, ⟨LV.le_refl _, LV.le_refl _, LV.le_refl _, LV.le_refl _, trivial⟩, ⟨rfl, trivial⟩⟩
    refine optK_intro _ P.hp ?_
    refine bceq (fun c2 => ?_) (fun c2 => ?_)
    rotate_left
    · have := stop (.inr c2)
      subst this
      exact ⟨(_, vU), ⟨rfl, P⟩, ⟨LV.le_refl _, LV.le_refl _, LV.le_refl _, LV.le_refl _, trivial⟩, ⟨rfl, trivial⟩⟩
    have hle := hne c2
    obtain ⟨k, rfl⟩ : ∃ k : Nat, n = (k : Int) + 1 := ⟨(n - 1).toNat, by omega⟩
    have e1 : ((k : Int) + 1).toNat = k + 1 := by omega
    rw [e1, repGo_ok c2] at hg
    have lx := unt_len s
    have P3 := P.rd (untP_ s).2
    refine ADraw.of_sched infoOK (by rfl) (by rfl) sch11_19 (by rfl) ?_
    refine optK_intro (o := S'.obj q) _ P.hq ?_
    refine ⟨unit_spec p s S' (by omega) P.hp _ ⟨⟨optK_intro (o := (rdO p (untP_ s).2 S').obj q) _ P3.hq rfl, trivial⟩, ?_⟩, trivial⟩
    generalize rdO p (untP_ s).2 S' = S3 at P3 ⊢
    generalize (untP_ s).1 = bx at *
    generalize (untP_ s).2 = sx at *
    refine ⟨by decide, ?_⟩
    refine ⟨appRows (ie := ti70) rfl untC_len (by decide) P3.rU bx rfl (by omega) (fun bb cap L q1 q2 q3 q4 => ⟨trivial, ?_⟩), trivial⟩
    have hbq : bb ≠ q := by
      rcases q1 with q1 | ⟨c0, q1⟩
      · exact q1.ne_obj P3.hq
      · exact (P3.nU bb _ _ q1).2
    refine ⟨?_, trivial⟩
    refine optK_intro _ rfl (guardK_none rfl (vcOp_store (v := .s (.slice (some ⟨bb, 0, none⟩) (l ++ [bx]).length cap)) rfl rfl rfl rfl ?_))
    refine storeK_obj (i := ti28) (v := .s (.slice (some ⟨bb, 0, none⟩) (l ++ [bx]).length cap)) (b := q) (o := 7) (l := [int a1, int a2, int a3, int g.1.W, int g.1.H, vT] ++ [vB, vU]) rfl rfl rfl (by rw [setObj_ne (Ne.symm hbq)]; exact P3.hq) (by simp) ?_
    have P4 := P3.appU q1 q2 q3 q4
    have c6 : splice ([int a1, int a2, int a3, int g.1.W, int g.1.H, vT] ++ [vB, vU]) 7 [.s (.slice (some ⟨bb, 0, none⟩) (l ++ [bx]).length cap)] = [int a1, int a2, int a3, int g.1.W, int g.1.H, vT] ++ [vB, .s (.slice (some ⟨bb, 0, none⟩) (l ++ [bx]).length cap)] := rfl
    rw [c6]
    generalize (S3.setObj bb _).setObj q _ = S4 at P4 ⊢
    refine ⟨trivial, ?_⟩
    refine in64 (by omega) ?_
    refine ⟨((k : Int) + 1 - 1, S4, sx, _, l ++ [bx]), ?_, ⟨rfl, P4, ?_, by dsimp only; omega, by dsimp only; omega, fun _ => ?_⟩, ⟨LV.le_refl _, LV.le_refl _, LV.le_refl _, LV.le_refl _, LV.le_refl _, trivial⟩, ⟨rfl, trivial⟩⟩
    · show ((k : Int) + 1 - 1).toNat < ((k : Int) + 1).toNat
      omega
    · dsimp only
      rw [show ((k : Int) + 1 - 1).toNat = k by omega]
      exact hg
    · dsimp only
      rw [List.length_append, List.length_singleton]
      push_cast
      omega
  rintro ⟨SA, vU⟩ SA' ⟨rfl, PA⟩
  dsimp only at PA ⊢
  have hbl : cU.2.b.length ≤ b.length := by omega
  have hE : imgE b = ((cU.2.same (eightL (fnvSum fnvStart (b.take (b.length - cU.2.b.length))))).fin).e := by unfold imgE; rw [eS]
  refine AWp.seq (AWp.of_vc infoOK ?_)
  refine ADraw.of_sched infoOK (by rfl) (by rfl) sch11_20 (by rfl) ?_
  refine optK_intro (o := SA'.obj p) _ PA.hp ?_
  refine ⟨by rw [rws_len, rws_len]; exact ⟨by omega, by omega⟩, ?_⟩
  refine ⟨0, b.length - cU.2.b.length, rfl, by rw [rws_len, rws_len]; show ((b.length : Int) - (cU.2.b.length : Int)) = ((b.length - cU.2.b.length : Nat) : Int); omega, by omega, by rw [rws_len]; omega, ?_⟩
  refine ⟨startSum_spec2 _ _ ⟨⟨rfl, optK_intro (o := SA'.obj p) _ PA.hp rfl, rfl, trivial⟩, ?_⟩, trivial⟩
  refine ⟨fnvSumV (l := b.take (b.length - cU.2.b.length)) _ (by rw [rws_take]; exact AV.le_refl _) (by rw [List.length_take]; omega) ⟨trivial, ?_⟩, trivial⟩
  refine ⟨fnvBytes_spec _ _ _ ⟨trivial, ?_⟩, trivial⟩
  refine ⟨onRd PA.hp (same_spec p cU.2 SA' _ (AV.le_refl _) (by rw [eightL_len]; omega) _ ⟨trivial, ?_⟩), trivial⟩
  generalize cU.2.same (eightL (fnvSum fnvStart (b.take (b.length - cU.2.b.length)))) = sG at *
  have PB := PA.rd sG
  generalize rdO p sG SA' = SB at PB ⊢
  clear PA
  refine AWp.seq (AWp.of_vc infoOK ?_)
  refine onRd PB.hp (fin_spec p sG SB _ ?_)
  have PC := PB.rd sG.fin
  generalize rdO p sG.fin SB = SC at PC ⊢
  clear PB
  generalize sG.fin = sF at *
  have eWG : imgW b = ⟨a1, a2, a3, g.1, cB.1, cU.1⟩ := eW
  have hleT : AV.le vT (byts g.1.T) := by
    rcases hvT with rfl | ⟨rfl, e⟩
    · exact AV.le_refl _
    · rw [e]; exact AV.le_nil 1
  have hleW : leL ([int a1, int a2, int a3, int g.1.W, int g.1.H, vT] ++ [vB, vU]) (wldVV (imgW b) vB vU) := by
    rw [eWG]
    exact ⟨AV.le_refl _, AV.le_refl _, AV.le_refl _, AV.le_refl _, AV.le_refl _, hleT, AV.le_refl _, AV.le_refl _, trivial⟩
  have hrB := PC.rB
  have hrU := PC.rU
  have eWB : cB.1 = (imgW b).B := by rw [eWG]
  have eWU : cU.1 = (imgW b).U := by rw [eWG]
  refine AWp.meetA (σ := Store × Rd) ⟨fun _ => [(0, .av (byts b)), (2, .bx 2 0), (4, .av (ptr q)), (5, .av (ptr p))], fun _ => [(2, z6 ++ [nil, nil])], fun x S => S = x.1 ∧ PSt x.1 p q x.2 [int a1, int a2, int a3, int g.1.W, int g.1.H, vT] vB cB.1 vU cU.1 ∧
    ((imgE b ≠ 0 ∧ x.2.e = imgE b) ∨ (imgE b = 0 ∧ ¬ mayP (imgW b) ∧ x.2.e = 1) ∨ (imgE b = 0 ∧ mayP (imgW b) ∧ x.2.e = 0))⟩ ?_ ?_
  · refine AWp.of_vc infoOK ?_
    refine optK_intro _ PC.hp ?_
    refine bceq (fun c1 => ?_) (fun c1 => ?_)
    rotate_left
    · exact ⟨(SC, sF), ⟨rfl, PC, .inl ⟨by rw [hE]; exact c1, hE.symm⟩⟩, ⟨LV.le_refl _, LV.le_refl _, LV.le_refl _, LV.le_refl _, trivial⟩, ⟨rfl, trivial⟩⟩
    have he0 : imgE b = 0 := hE.trans c1
    refine optK_intro _ PC.hq ?_
    refine ACalls.le (ys := [.agg (wldVV (imgW b) vB vU)]) ⟨AV.le_aggL hleW, trivial⟩ ?_
    rw [eWB] at hrB
    rw [eWU] at hrU
    refine mayVV_spec hrB hrU (img_fits he0) (img_pos b) _ (yesno (fun hm => ?_) (fun hm => ?_))
    · exact ⟨(SC, sF), ⟨rfl, PC, .inr (.inr ⟨he0, hm, c1⟩)⟩, ⟨LV.le_refl _, LV.le_refl _, LV.le_refl _, LV.le_refl _, trivial⟩, ⟨rfl, trivial⟩⟩
    · refine storeK_obj (i := ti34) (v := int 1) (b := p) (o := 1) (l := [byts sF.b, int sF.e]) rfl rfl rfl PC.hp (by simp) ?_
      have PD := PC.rd ⟨sF.b, 1⟩
      exact ⟨(_, ⟨sF.b, 1⟩), ⟨rfl, PD, .inr (.inl ⟨he0, hm, rfl⟩)⟩, ⟨LV.le_refl _, LV.le_refl _, LV.le_refl _, LV.le_refl _, trivial⟩, ⟨rfl, trivial⟩⟩
  rintro ⟨SD, t⟩ SD' ⟨rfl, PD, hcase⟩
  dsimp only at PD hcase ⊢
  clear PC hrB hrU
  have hrB := PD.rB
  have hrU := PD.rU
  rw [eWB] at hrB
  rw [eWU] at hrU
  refine AWp.seq (AWp.of_vc infoOK ?_)
  refine optK_intro _ PD.hp ?_
  refine bcne (fun c1 => ?_) (fun c1 => ?_)
  · refine ADraw.of_sched infoOK (by rfl) (by rfl) sch11_25 (by rfl) ?_
    refine optK_intro (o := SD'.obj p) _ PD.hp ?_
    refine ⟨⟨⟨optK_intro (o := SD'.obj p) _ PD.hp rfl, trivial⟩, ?_⟩, trivial⟩
    refine ⟨⟨trivial, ?_⟩, trivial⟩
    rcases hcase with ⟨g1, g2⟩ | ⟨g1, g2, g3⟩ | ⟨g1, g2, g3⟩
    · exact ret (fin _ _ (.inl ⟨g1, by rw [g2]; rfl⟩))
    · exact ret (fin _ _ (.inr (.inl ⟨g1, g2, by rw [g3]; rfl⟩)))
    · exact absurd g3 c1
  · refine AWp.of_vc infoOK ?_
    refine optK_intro _ PD.hq ?_
    have o1 : vT.one = true := by
      rcases hvT with rfl | ⟨rfl, _⟩
      · rfl
      · rfl
    have o2 := (rows_some PD.rB).2
    have o3 := (rows_some PD.rU).2
    have oall : ([int a1, int a2, int a3, int g.1.W, int g.1.H, vT, vB, vU]).all AV.one = true := by
      show (true && (true && (true && (true && (true && (vT.one && (vB.one && (vU.one && true)))))))) = true
      rw [o1, o2, o3]; rfl
    refine storeK_boxL (i := ti30) (xs := [int a1, int a2, int a3, int g.1.W, int g.1.H, vT, vB, vU]) (l := z6 ++ [nil, nil]) (b := 2) (o := 0) (v := .agg ([int a1, int a2, int a3, int g.1.W, int g.1.H, vT] ++ [vB, vU])) rfl oall rfl (by rfl) (by show 0 + 8 ≤ 8; decide) ?_
    rcases hcase with ⟨g1, g2⟩ | ⟨g1, g2, g3⟩ | ⟨g1, g2, g3⟩
    · exact absurd (g2.symm.trans c1) g1
    · rw [g3] at c1; cases c1
    · refine retR (fin _ _ (.inr (.inr ⟨g1, g2, vB, vU, hrB, hrU, rfl⟩))) (Store.Has.refl _) (AV.le_tupL (xs := [.agg ([int a1, int a2, int a3, int g.1.W, int g.1.H, vT] ++ [vB, vU]), int 0]) ⟨AV.le_aggL hleW, AV.le_refl _, trivial⟩)
end Go.Proofs
namespace Go.Proofs
open Go Go.V
set_option linter.unusedVariables false

def w00 : Wld := ⟨0, 0, 0, ⟨0, 0, []⟩, [], []⟩
def ResQ (b : List UInt8) (r : AV) : Prop :=
  (imgE b ≠ 0 ∧ r = .tup [.agg (wldC w00), int (imgE b)]) ∨ (imgE b = 0 ∧ ¬ mayP (imgW b) ∧ r = .tup [.agg (wldC w00), int 1]) ∨ (imgE b = 0 ∧ mayP (imgW b) ∧ r = .tup [.agg (wldC (imgW b)), int 0])

theorem tup2_borrow {S : Store} {x y : AV} {e : Int} {Oth M : Nat → Nat → Prop} {w : World} {v : Value} (hx : ∀ u, VRel w (fun b o => M b o ∨ Oth b o) x u → VRel w (fun b o => (M b o ∨ Oth b o) ∧ S.obj b = none) y u) (h : VRel w (fun b o => M b o ∨ Oth b o) (.tup [x, int e]) v) :
    VRel w (fun b o => (M b o ∨ Oth b o) ∧ S.obj b = none) (.tup [y, int e]) v := by
  cases h with
  | tup _ c hl hc =>
    refine .tup _ c hl fun i a u ha hu => ?_
    match i with
    | 0 => simp only [List.getElem?_cons_zero, Option.some.injEq] at ha; subst ha; exact hx u (hc 0 _ u rfl hu)
    | 1 => simp only [List.getElem?_cons_succ, List.getElem?_cons_zero, Option.some.injEq] at ha; subst ha; exact mono_borrow (hc 1 _ u rfl hu)
    | i + 2 => simp at ha

theorem zero_le : AV.le (.agg (z6 ++ [nil, nil])) (.agg (wldC w00)) := AV.le_aggL ⟨AV.le_refl _, AV.le_refl _, AV.le_refl _, AV.le_refl _, AV.le_refl _, AV.le_nil 1, AV.le_nil 6, AV.le_nil 10, trivial⟩

theorem iparse_frozen (b : List UInt8) (hb : b.length ≤ 1048576) : ACalls Tryz.prog 11 [byts b] Store.empty fun r _ => ResQ b r :=
  ACalls.frozen (Q := fun r S => PostP b r S) (iparse_key b hb _ fun r S h => h) fun r S h => by
    rcases h with ⟨g1, rfl⟩ | ⟨g1, g2, rfl⟩ | ⟨g1, g2, vB, vU, g3, g4, rfl⟩
    · exact ⟨_, .inl ⟨g1, rfl⟩, fun Oth M w v hs hv => tup2_borrow (fun u hu => mono_borrow (zero_le _ _ _ hu)) hv⟩
    · exact ⟨_, .inr (.inl ⟨g1, g2, rfl⟩), fun Oth M w v hs hv => tup2_borrow (fun u hu => mono_borrow (zero_le _ _ _ hu)) hv⟩
    · exact ⟨_, .inr (.inr ⟨g1, g2, rfl⟩), fun Oth M w v hs hv => tup2_borrow (fun u hu => wldVV_borrow g3 g4 hs hu) hv⟩

theorem iparse_spec (b : List UInt8) (hb : b.length ≤ 1048576) (st : Store) (R : AV → Store → Prop) (h0 : imgE b ≠ 0 → R (.tup [.agg (wldC w00), int (imgE b)]) st) (h1 : imgE b = 0 → ¬ mayP (imgW b) → R (.tup [.agg (wldC w00), int 1]) st)
    (h2 : imgE b = 0 → mayP (imgW b) → R (.tup [.agg (wldC (imgW b)), int 0]) st) : ACalls Tryz.prog 11 [byts b] st R :=
  lift0 (iparse_frozen b hb) st R fun r hr => by
    rcases hr with ⟨g1, rfl⟩ | ⟨g1, g2, rfl⟩ | ⟨g1, g2, rfl⟩
    · exact h0 g1
    · exact h1 g1 g2
    · exact h2 g1 g2
end Go.Proofs
namespace Go.Proofs
open Go Go.V
set_option linter.unusedVariables false

structure Ask26 where
  W : Wld
  X : List UInt8
def ask26C (a : Ask26) : List AV := wldC a.W ++ [byts a.X]
def heavy26P (a : Ask26) : Prop := greatP a.W ∨ a.X.length > 3000

theorem num26_spec (e : Int) (st : Store) (R : AV → Store → Prop) (h : R (int e) st) : ACalls Tryz.prog 13 [int e] st R := by
  refine ACalls.of_body (c := cfg 4) infoOK Tryz.func13 (by rfl) (by rfl) (by rfl) (by rfl) ?_
  exact ret h

theorem heavy26_spec (a : Ask26) (st : Store) (R : AV → Store → Prop) (h : ∀ z : Bool, (z = true ↔ heavy26P a) → R (V.bool z) st) : ACalls Tryz.prog 9 [.agg (ask26C a)] st R := by
  refine ACalls.of_body (c := cfg 12) infoOK Tryz.func9 (by rfl) (by rfl) (by rfl) (by rfl) ?_
  refine greatWorld_spec a.W _ _ (fun z hz => ?_)
  refine bcase_intro (fun c1 => ret (h true (by simp only [true_iff]; exact .inl (hz.1 c1)))) (fun c1 => ?_)
  have hno : ¬ greatP a.W := fun hh => by rw [hz.2 hh] at c1; cases c1
  refine ret (h _ ?_)
  rw [decide_eq_true_iff, rws_len]
  have e : ((3000 : Int) < (a.X.length : Int)) ↔ a.X.length > 3000 := by omega
  exact e.trans ⟨fun hh => .inr hh, fun hh => hh.resolve_left hno⟩

theorem heavy26_fits {a : Ask26} (h : ¬ heavy26P a) : a.W.fits ∧ a.X.length ≤ 3000 ∧ a.W.U.length ≤ 30 ∧ a.W.B.length ≤ 30 ∧ a.W.G.T.length ≤ 700 := by
  unfold heavy26P greatP at h
  exact ⟨⟨by unfold Gnd.fits; omega, by omega, by omega⟩, by omega, by omega, by omega, by omega⟩

set_option maxRecDepth 20000 in
theorem eqWorld_spec (a b : Wld) (ha : a.fits) (st : Store) (R : AV → Store → Prop) (h : R (V.bool (decide (a = b))) st) : ACalls Tryz.prog 14 [.agg (wldC a), .agg (wldC b)] st R := by
  have no : a ≠ b → R (V.bool false) st := fun hne => by rw [decide_eq_false hne] at h; exact h
  refine ACalls.of_body (c := cfg 45) infoOK Tryz.func14 (by rfl) (by rfl) (by rfl) (by rfl) ?_
  refine bceq (fun h1 => ?_) (fun h9 => ret (no (fun e => h9 (congrArg Wld.tick e))))
  refine bceq (fun h2 => ?_) (fun h9 => ret (no (fun e => h9 (congrArg Wld.players e))))
  refine bceq (fun h3 => ?_) (fun h9 => ret (no (fun e => h9 (congrArg Wld.next e))))
  refine eqGround_spec a.G b.G ha.1 _ _ ?_
  refine bcase_intro (fun c1 => ?_) (fun c1 => ret (no (fun e => by subst e; simp at c1)))
  refine eqBlds_spec a.B b.B ha.2.1 _ _ ?_
  refine bcase_intro (fun c2 => ?_) (fun c2 => ret (no (fun e => by subst e; simp at c2)))
  refine eqUnts_spec a.U b.U ha.2.2 _ _ ?_
  have e : decide (a.U = b.U) = decide (a = b) := by
    rw [Bool.eq_iff_iff, decide_eq_true_iff, decide_eq_true_iff]
    constructor
    · intro h9
      have c1 := of_decide_eq_true c1
      have c2 := of_decide_eq_true c2
      cases a; cases b
      simp_all
    · rintro rfl
      rfl
  rw [← e] at h
  exact ret h

def w0 : Wld := ⟨0, 1, 1, ⟨1, 1, [0]⟩, [], []⟩
theorem w0_may : mayP w0 := by
  refine ⟨⟨⟨by decide, ⟨⟨by decide, by decide, rfl, by decide⟩, ⟨by decide, fun j h => (by cases h), fun b hb => (by cases hb), fun j h => (by cases h)⟩, by decide⟩, fun b hb => (by cases hb)⟩, ⟨fun j h => (by cases h), fun u hu => (by cases hu)⟩⟩, fun u hu => (by cases hu), fun u hu => (by cases hu)⟩
theorem w0_fits : w0.fits := ⟨by unfold Gnd.fits; decide, by decide, by decide⟩
theorem imgL_len {w : Wld} (hw : wldN w) : (imgL w).length ≤ 500008 := by
  have := worldL_len hw
  unfold imgL
  rw [List.length_append, eightL_len]
  omega

theorem wakes26_spec (st : Store) (R : AV → Store → Prop) (h : R (V.bool true) st) : ACalls Tryz.prog 17 [] st R := by
  have hwn := may_nums w0_may
  have hl := imgL_len hwn
  obtain ⟨g1, g2⟩ := img_ok hwn
  refine ACalls.of_body (c := cfg 32) infoOK Tryz.func17 (by rfl) (by rfl) (by rfl) (by rfl) ?_
  refine ⟨by decide, ?_⟩
  refine ACalls.le (ys := [.agg (wldC w0)]) ⟨AV.le_aggL ⟨AV.le_refl _, AV.le_refl _, AV.le_refl _, AV.le_refl _, AV.le_refl _, AV.le_refl _, AV.le_nil 6, AV.le_nil 10, trivial⟩, trivial⟩ ?_
  refine ibytes_spec w0 w0_fits (fun u hu => (by cases hu)) _ _ (fun hn => absurd w0_may hn) (fun _ => ?_)
  refine iparse_spec (imgL w0) (by omega) _ _ (fun hn => absurd g2 hn) (fun _ hn => absurd (by rw [g1]; exact w0_may) hn) (fun _ _ => ?_)
  rw [g1]
  refine num26_spec _ _ _ ?_
  refine num26_spec _ _ _ ?_
  refine ACalls.le (ys := [.agg (wldC w0), .agg (wldC w0)]) ⟨AV.le_refl _, AV.le_aggL ⟨AV.le_refl _, AV.le_refl _, AV.le_refl _, AV.le_refl _, AV.le_refl _, AV.le_refl _, AV.le_nil 6, AV.le_nil 10, trivial⟩, trivial⟩ ?_
  refine eqWorld_spec w0 w0 w0_fits _ _ ?_
  rw [decide_eq_true rfl]
  exact ret h
end Go.Proofs
