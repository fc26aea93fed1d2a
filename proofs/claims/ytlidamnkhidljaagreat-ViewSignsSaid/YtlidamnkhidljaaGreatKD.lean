/- The ground on which laws of thronglaw31 are proved: contracts of functions and plain lemmas; no condition beyond the row's own. -/
import Derived.MapKept
import Derived.Test.YtlidamnkhidljaaGreatKC
import Derived.Test.YtlidamnkhidljaaGreatKB
set_option linter.unusedSimpArgs false
set_option linter.unusedVariables false
namespace Go.V
section
variable {P : Program} {c : Cfg} {ops : Array Oper} {Oth M0 : Nat -> Nat -> Prop} {w0 : World}
def vx (c : Cfg) (Oth M0 : Nat -> Nat -> Prop) (w0 : World) (K : Fr -> Store -> Prop) : Exit -> Act -> World -> Prop :=
  fun e a' w' => ∃ A' st' M', (match e with | .normal => K A' st' | _ => False) /\ Sim c.n Oth A' st' M' a' w' /\ Chg M0 w0 M' w'
theorem zkx (hI : zp P c.I) {ev : Operand -> LV} {bx : Nat -> Option (List AV)} {st : Store} {d : Nat} {op : Op} {K : LV -> Prop} (h : vcW c ev bx st d op K) : ∃ x, K x /\ vcW c ev bx st d op fun y => y = x := by
  unfold vcW at h ⊢
  split at h
  · obtain ⟨_, _, _, _, x, _, _, _, _, _, _, _, hx, hx'⟩ := zgg h
    exact ⟨x, hx, hx' _ rfl⟩
  · obtain ⟨x, hx, hx', _⟩ := zck hI _ h
    exact ⟨x, hx, hx' _ rfl⟩
section
variable {listed : Array Bool} {Lab U : List Nat} {A : Fr} {st : Store} {M : Nat -> Nat -> Prop} {a : Act} {w : World}
theorem DInv.listed_iff (h : DInv c ops Oth M0 w0 listed Lab U A st M a w) {i : Nat} (hi : i < ops.size) : listed.getD i true = false ↔ ¬ (i ∈ Lab /\ i ∉ U) := by
  rw [zfn (by rw [h.lsz]; exact hi), <- h.lst i hi]
  simp
theorem DInv.done (hops : wu c ops = true) {K : Fr -> Store -> Prop} {S : Sched} (h : DInv c ops Oth M0 w0 listed Lab U A st M a w) (hs : yj c ops S Lab true = true) (hv : vcDr P c ops K S A st)
    (hl : left ops listed = 0) : vx c Oth M0 w0 K .normal a w := by
  have hall : ∀ i, i < ops.size -> i ∈ Lab /\ i ∉ U := fun i hi => by
    have := zdy hl hi
    rw [zfn (by rw [h.lsz]; exact hi)] at this
    exact (h.lst i hi).1 this
  have hU : U = [] := by
    cases U with
    | nil => rfl
    | cons u U => exact absurd (List.mem_cons_self) (hall u (h.lab u (h.usub u List.mem_cons_self)).1).2
  subst hU
  cases S with
  | done => exact ⟨A, st, M, hv, h.sim, h.chg⟩
  | stop => simp [yj] at hs
  | v i r =>
    simp only [yj, Bool.and_eq_true, Bool.not_eq_true'] at hs
    have hlt : i < ops.size := Nat.le_of_ble_eq_true hs.2.1.1.1.2
    have := hs.2.1.1.1.1
    rw [(yz _ _).2 (hall i hlt).1] at this
    cases this
  | e i chk r alt =>
    simp only [yj, zj4, Bool.and_eq_true, Bool.not_eq_true'] at hs
    have hlt : i < ops.size := Nat.le_of_ble_eq_true hs.1.1.1.1.1.1.2
    have := hs.1.1.1.1.1.1.1
    rw [(yz _ _).2 (hall i hlt).1] at this
    cases this
theorem DInv.ready_ne (hops : wu c ops = true) (h : DInv c ops Oth M0 w0 listed Lab U A st M a w) {n : Nat} (hl : left ops listed = n + 1) : Region.ready .any ops listed ≠ [] := by
  intro hr
  have hex : ∃ i, i < ops.size /\ listed.getD i true = false := by
    unfold left at hl
    have : 0 < (List.range ops.size).countP fun i => !listed.getD i true := by omega
    obtain ⟨i, hi, hp⟩ := List.countP_pos_iff.1 this
    exact ⟨i, List.mem_range.1 hi, by simpa using hp⟩
  obtain ⟨i, hi, hp, hmin⟩ := zt6 ops.size hex
  have : i ∈ Region.ready .any ops listed := by
    rw [ready_iff]
    refine ⟨hp, hi, fun j hj => ?_⟩
    have hlt := (yw hops (Array.getElem?_eq_getElem hi)).lt j hj
    have := hmin j hlt
    rw [zfn (by rw [h.lsz]; omega)] at this
    simpa using this
  rw [hr] at this
  cases this
/-- What a ready operation looks at stands in the frame. -/
theorem DInv.clear (hops : wu c ops = true) (h : DInv c ops Oth M0 w0 listed Lab U A st M a w) {i : Nat} (hr : i ∈ Region.ready .any ops listed) {o : Oper} (hi : ops[i]? = some o) : ∀ t ∈ o.looksAt ops, t ∉ y6 ops U := by
  intro t ht hd
  obtain ⟨k, hk, o', ho', hd'⟩ := mem_dsts.1 hd
  have hf := yw hops ho'
  by_cases hki : i = k
  · subst hki
    rw [hi] at ho'
    cases ho'
    exact hf.own t hd' ht
  · obtain ⟨o2, ho2, hv⟩ := h.uv k hk
    rw [ho'] at ho2
    cases ho2
    rcases hf.look t hd' i o hi hki ht with h1 | ⟨h1, _⟩
    · have := (ready_iff.1 hr).2.2 k h1
      exact ((h.lst k (h.lab k (h.usub k hk)).1).1 this).2 hk
    · rw [hv] at h1; cases h1
theorem DInv.look (h : DInv c ops Oth M0 w0 listed Lab U A st M a w) {i : Nat} {o : Oper} (hl : ∀ t ∈ o.looksAt ops, t ∉ y6 ops U) : ∀ t ∈ o.looksAt ops, (zq A (y6 ops U)).t t = A.t t :=
  fun t ht => vf (hl t ht)
theorem zss (hops : wu c ops = true) : ∀ i j, j ∈ yl ops i -> j < ops.size := by
  intro i j hj
  cases hi : ops[i]? with
  | none => unfold yl at hj; rw [hi] at hj; simp at hj
  | some o =>
    have := (yw hops hi).lt j hj
    have h2 := (Array.getElem?_eq_some_iff.1 hi).1
    omega
theorem zka (h : DInv c ops Oth M0 w0 listed Lab U A st M a w) (hops : wu c ops = true) {i : Nat} (hr : i ∈ Region.ready .any ops listed) :
    ∀ k, k < ops.size -> (listed.setIfInBounds i true).getD k false = true -> ∀ j ∈ yl ops k, (listed.setIfInBounds i true).getD j false = true := by
  have mono : ∀ j, listed.getD j false = true -> (listed.setIfInBounds i true).getD j false = true := by
    intro j hj
    by_cases hji : i = j
    · subst hji
      have : i < listed.size := by
        rw [h.lsz]; exact (ready_iff.1 hr).2.1
      simp [this]
    · rw [getD_set_ne false hji]; exact hj
  intro k hk hl j hj
  by_cases hki : i = k
  · subst hki; exact mono j ((ready_iff.1 hr).2.2 j hj)
  · rw [getD_set_ne false hki] at hl
    exact mono j (h.cls k hk hl j hj)
/-- A pending operation comes. -/
theorem DInv.pend (hI : zp P c.I) (hops : wu c ops = true) {K : Fr -> Store -> Prop} {fuel : Nat} (h : DInv c ops Oth M0 w0 listed Lab U A st M a w) {i : Nat} (hr : i ∈ Region.ready .any ops listed) (hU : i ∈ U)
    (ih : ∀ (U' : List Nat) (M' : Nat -> Nat -> Prop) (a' : Act) (w' : World), DInv c ops Oth M0 w0 (listed.setIfInBounds i true) Lab U' A st M' a' w' -> wpAny P .any ops (vx c Oth M0 w0 K) fuel (listed.setIfInBounds i true) a' w') :
    wpOp P ops (vx c Oth M0 w0 K) i (wpAny P .any ops (vx c Oth M0 w0 K) fuel (listed.setIfInBounds i true)) a w := by
  obtain ⟨o, d, hi, hd, hst⟩ := stands_iff.1 (h.std i hU)
  have hf := yw hops hi
  have hclear := h.clear hops hr hi
  have hlook := h.look (i := i) hclear
  have hilt := (Array.getElem?_eq_some_iff.1 hi).1
  -- the frame behind it
  have next : ∀ (M' : Nat -> Nat -> Prop) (a' : Act) (w' : World), Sim c.n Oth ((zq A (y6 ops U)).put d (A.t d)) st M' a' w' -> Chg M w M' w' ->
      wpAny P .any ops (vx c Oth M0 w0 K) fuel (listed.setIfInBounds i true) a' w' := by
    rintro M' a' w' ⟨β, sim⟩ hchg
    refine ih (U.filter fun k => !Nat.beq k i) M' a' w' ⟨by simp [h.lsz], fun j hj => ?_, fun j hj => h.usub j (List.mem_filter.1 hj).1, h.lab, fun j hj => h.uv j (List.mem_filter.1 hj).1, fun j hj => h.std j (List.mem_filter.1 hj).1, ⟨β, sim.weaken rfl fun t => ?_⟩, h.chg.trans hchg, zka h hops hr⟩
    · by_cases hji : i = j
      · subst hji
        have : i < listed.size := by rw [h.lsz]; exact hilt
        simp [this, h.usub i hU]
      · rw [getD_set_ne false hji, h.lst j hj]
        simp [List.mem_filter, nbeq (Ne.symm hji)]
    · by_cases ht : t = d
      · subst ht
        left
        rw [vf]
        · simp [Fr.put]
        · intro hm
          obtain ⟨k, hk, o', ho', hd'⟩ := mem_dsts.1 hm
          have hki : k ≠ i := by
            have := (List.mem_filter.1 hk).2
            intro h; subst h; simp at this
          exact hf.one t hd k o' ho' hki hd'
      · by_cases hm : t ∈ y6 ops (U.filter fun k => !Nat.beq k i)
        · right; simp [zq, (yz _ _).2 hm]
        · left
          have hm2 : t ∉ y6 ops U := by
            intro h2
            obtain ⟨k, hk, o', ho', hd'⟩ := mem_dsts.1 h2
            refine hm (mem_dsts.2 ⟨k, List.mem_filter.2 ⟨hk, ?_⟩, o', ho', hd'⟩)
            by_cases hki : k = i
            · subst hki; rw [hi] at ho'; cases ho'; rw [hd] at hd'; cases hd'; exact absurd rfl ht
            · simp [nbeq hki]
          simp only [Fr.put, nbeq ht, cond_false]
          rw [vf hm, vf hm2]
  unfold Go.wpOp
  simp only [hi]
  rcases hst with ⟨hg, hv⟩ | ⟨hg, hu⟩
  · have hg' : qv ops o (zq A (y6 ops U)) = some true := by rw [qd hlook]; exact hg
    rw [qz h.sim hg']
    simp only [if_true]
    refine .inl (Oper.wp_q (Oper.wp_mono ?_ (zkl hI hd (hf.dlt d hd) (zai (ev' := (zq A (y6 ops U)).ev) (zc1 hlook) hv) Oth M a w h.sim)))
    rintro a' w' ⟨A', st', M', ⟨hA, hst⟩, hsim, hchg⟩
    subst hA hst
    exact next M' a' w' hsim hchg
  · have hg' : qv ops o (zq A (y6 ops U)) = some false := by rw [qd hlook]; exact hg
    rw [qz h.sim hg']
    simp only [Bool.false_eq_true, if_false]
    obtain ⟨β, sim⟩ := h.sim
    refine next M _ w ⟨β, ?_⟩ (Chg.refl M w)
    rw [hd, hu]
    exact sim.put (hf.dlt d hd) rfl
/-- An effect comes. -/
theorem DInv.eff (hI : zp P c.I) (hops : wu c ops = true) {K : Fr -> Store -> Prop} {fuel : Nat} (h : DInv c ops Oth M0 w0 listed Lab U A st M a w) {i : Nat} (hr : i ∈ Region.ready .any ops listed) {chk : List Nat} {r : Sched}
    (he : zj4 c ops i chk Lab = true) (hv : zj3 P c ops K i chk r A st)
    (ih : ∀ (A' : Fr) (st' : Store) (M' : Nat -> Nat -> Prop) (a' : Act) (w' : World), vcDr P c ops K r A' st' -> DInv c ops Oth M0 w0 (listed.setIfInBounds i true) (i :: Lab) U A' st' M' a' w' -> wpAny P .any ops (vx c Oth M0 w0 K) fuel (listed.setIfInBounds i true) a' w') :
    wpOp P ops (vx c Oth M0 w0 K) i (wpAny P .any ops (vx c Oth M0 w0 K) fuel (listed.setIfInBounds i true)) a w := by
  obtain ⟨o, hi, hv⟩ := zd hv
  have hf := yw hops hi
  have hclear := h.clear hops hr hi
  have hlook := h.look (i := i) hclear
  have hilt := (Array.getElem?_eq_some_iff.1 hi).1
  simp only [zj4, hi, Bool.and_eq_true, Bool.not_eq_true', List.all_eq_true] at he
  obtain ⟨⟨⟨⟨hnL, _⟩, hdeps⟩, hnV⟩, hL⟩ := he
  have hiL : i ∉ Lab := fun hm => by rw [(yz _ _).2 hm] at hnL; cases hnL
  have hiU : i ∉ U := fun hm => hiL (h.usub i hm)
  have hdD : ∀ d, o.dst = some d -> d ∉ y6 ops U := by
    intro d hd hm
    obtain ⟨k, hk, o', ho', hd'⟩ := mem_dsts.1 hm
    exact hf.one d hd k o' ho' (fun h => hiU (h ▸ hk)) hd'
  have hdl : ∀ j ∈ yl ops i, j ∈ Lab /\ j ∉ U := fun j hj => by
    have h1 := (ready_iff.1 hr).2.2 j hj
    have hlt : j < ops.size := by
      have := hf.lt j hj; omega
    exact (h.lst j hlt).1 h1
  have hkr : ∀ k ∈ U, k ∉ ziz ops i := fun k hk hm => by
    have h1 := zds h.cls (zss hops) (ready_iff.1 hr).2.2 k hm
    exact ((h.lst k (h.lab k (h.usub k hk)).1).1 h1).2 hk
  -- what follows
  have next : ∀ (A' : Fr) (st' : Store) (M' : Nat -> Nat -> Prop) (a' : Act) (w' : World), xf c ops A' st' chk -> vcDr P c ops K r A' st' -> Kept o A A' -> ((∃ k, A' = A.put k .und /\ o.dst = some k /\ st' = st) \/ A' = A /\ st' = st \/ True) -> Sim c.n Oth (zq A' (y6 ops U)) st' M' a' w' -> Chg M w M' w' ->
      (∀ k ∈ U, k ∉ chk -> ∀ o', ops[k]? = some o' -> ∀ t, o.dst ≠ some t -> A'.t t = A.t t) ->
      wpAny P .any ops (vx c Oth M0 w0 K) fuel (listed.setIfInBounds i true) a' w' := by
    intro A' st' M' a' w' hchk hvc hkept _ hsim hchg hk2
    refine ih A' st' M' a' w' hvc ⟨by simp [h.lsz], fun j hj => ?_, fun j hj => List.mem_cons_of_mem _ (h.usub j hj), fun j hj => ?_, h.uv, fun k hk => ?_, hsim, h.chg.trans hchg, zka h hops hr⟩
    · by_cases hji : i = j
      · subst hji
        have : i < listed.size := by rw [h.lsz]; exact hilt
        simp [this, hiU]
      · rw [getD_set_ne false hji, h.lst j hj]
        simp [Ne.symm hji]
    · rcases List.mem_cons.1 hj with rfl | hj
      · exact ⟨hilt, fun k hk => List.mem_cons_of_mem _ (hdl k hk).1⟩
      · exact ⟨(h.lab j hj).1, fun k hk => List.mem_cons_of_mem _ ((h.lab j hj).2 k hk)⟩
    · by_cases hkc : k ∈ chk
      · exact zcn hchk k hkc
      · obtain ⟨o', ho', hV⟩ := h.uv k hk
        have hk3 := hk2 k hk hkc o' ho'
        have hki : k ≠ i := fun h => hiU (h ▸ hk)
        have hkd : k ∉ yl ops i := fun hd => (hdl k hd).2 hk
        have h4 := hL k (h.usub k hk)
        have m1 : mem k (ziz ops i) = false := qi (hkr k hk)
        have m2 : mem k chk = false := qi hkc
        rw [ho'] at h4
        simp only [m1, m2, Bool.false_or, Bool.or_eq_true, Bool.not_eq_true', Bool.and_eq_true, hV, Bool.true_eq_false, false_or] at h4
        refine v8 ho' (h.std k hk) (fun t ht => hk3 t fun hd => ?_) (fun d hd => hk3 d fun hd2 => hf.one d hd2 k o' ho' hki hd) (.inr h4.1)
        rcases hf.look t hd k o' ho' hki ht with h5 | ⟨_, h5⟩
        · exact hiL ((h.lab k (h.usub k hk)).2 i h5)
        · exact hkd h5
  have hkept : ∀ (A' : Fr), Kept o A A' -> ∀ k ∈ U, k ∉ chk -> ∀ o', ops[k]? = some o' -> ∀ t, o.dst ≠ some t -> A'.t t = A.t t := by
    intro A' hK k hk hkc o' ho' t ht
    obtain ⟨o2, ho2, hV⟩ := h.uv k hk
    rw [ho'] at ho2
    cases ho2
    have hkd : k ∉ yl ops i := fun hd => (hdl k hd).2 hk
    have h4 := hL k (h.usub k hk)
    have m1 : mem k (ziz ops i) = false := qi (hkr k hk)
    have m2 : mem k chk = false := qi hkc
    rw [ho'] at h4
    simp only [m1, m2, Bool.false_or, Bool.or_eq_true, Bool.not_eq_true', Bool.and_eq_true, hV, Bool.true_eq_false, false_or] at h4
    refine hK ?_ t ht
    have h5 := h4.2
    revert h5
    cases o.op <;> simp
  unfold Go.wpOp
  simp only [hi]
  rcases guardK_iff.1 hv with ⟨hg, hv⟩ | ⟨hg, hv⟩
  · have hg' : qv ops o (zq A (y6 ops U)) = some true := by rw [qd hlook]; exact hg
    rw [qz h.sim hg']
    simp only [if_true]
    have hF := zez (D := y6 ops U) hI hv (fun x hx t ht => hclear t (zjd (by rw [<- ht]; exact hx))) hdD
    refine .inl (Oper.wp_q (Oper.wp_mono ?_ (zer hI hF Oth M a w h.sim)))
    rintro a' w' ⟨B', st', M', ⟨A', ⟨hchk, hvc⟩, hB, hkp⟩, hsim, hchg⟩
    subst hB
    exact next A' st' M' a' w' hchk hvc hkp (.inr (.inr trivial)) hsim hchg (hkept A' hkp)
  · have hg' : qv ops o (zq A (y6 ops U)) = some false := by rw [qd hlook]; exact hg
    rw [qz h.sim hg']
    simp only [Bool.false_eq_true, if_false]
    obtain ⟨β, sim⟩ := h.sim
    unfold putO at hv
    cases hd : o.dst with
    | none =>
      rw [hd] at hv
      exact next A st M _ w hv.1 hv.2 zay (.inr (.inr trivial)) ⟨β, sim⟩ (Chg.refl M w) (fun _ _ _ _ _ _ _ => rfl)
    | some d =>
      rw [hd] at hv
      obtain ⟨hlt, hv⟩ := yr hv
      refine next (A.put d .und) st M _ w hv.1 hv.2 (x5 hd) (.inr (.inr trivial)) ⟨β, ?_⟩ (Chg.refl M w) (fun _ _ _ _ _ t ht => by
        have : t ≠ d := fun h => ht (by rw [h]; exact hd)
        simp [Fr.put, nbeq this])
      rw [<- yx (hdD d hd)]
      exact sim.put hlt rfl
/-- A value moves to the pending ones. -/
theorem DInv.move (hI : zp P c.I) (hops : wu c ops = true) {K : Fr -> Store -> Prop} (h : DInv c ops Oth M0 w0 listed Lab U A st M a w) {j : Nat} {r : Sched} (hs : yj c ops (.v j r) Lab true = true) (hv : vcDr P c ops K (.v j r) A st) :
    ∃ A', yj c ops r (j :: Lab) true = true /\ vcDr P c ops K r A' st /\ DInv c ops Oth M0 w0 listed (j :: Lab) (j :: U) A' st M a w := by
  simp only [yj, Bool.and_eq_true, Bool.not_eq_true', true_and] at hs
  obtain ⟨⟨⟨⟨hn, hlt⟩, hV⟩, hdep⟩, hs⟩ := hs
  have hjL : j ∉ Lab := fun hm => by rw [(yz _ _).2 hm] at hn; cases hn
  have hlt : j < ops.size := Nat.le_of_ble_eq_true hlt
  obtain ⟨o, hi, hv⟩ := zd hv
  obtain ⟨d, hd, hv⟩ := zd hv
  rw [hi] at hV
  replace hV : isV c o = true := hV
  have hf := yw hops hi
  have hdl : ∀ k ∈ yl ops j, k ∈ Lab := fun k hk => (yz _ _).1 (List.all_eq_true.1 hdep k hk)
  have key : ∀ x, vcDr P c ops K r (A.put d x) st -> ((qv ops o A = some true /\ vcW c A.ev A.bx st d o.op fun y => y = x) \/ (qv ops o A = some false /\ x = .und)) ->
      ∃ A', yj c ops r (j :: Lab) true = true /\ vcDr P c ops K r A' st /\ DInv c ops Oth M0 w0 listed (j :: Lab) (j :: U) A' st M a w := by
    intro x hx hst
    have hout : ∀ t, t ≠ d -> (A.put d x).t t = A.t t := fun t ht => by simp [Fr.put, nbeq ht]
    refine ⟨A.put d x, hs, hx, h.lsz, fun k hk => ?_, fun k hk => ?_, fun k hk => ?_, fun k hk => ?_, fun k hk => ?_, ?_, h.chg, h.cls⟩
    · rw [h.lst k hk]
      by_cases hkj : k = j
      · subst hkj; simp [hjL]
      · simp [hkj]
    · rcases List.mem_cons.1 hk with rfl | hk
      · exact List.mem_cons_self
      · exact List.mem_cons_of_mem _ (h.usub k hk)
    · rcases List.mem_cons.1 hk with rfl | hk
      · exact ⟨hlt, fun k hk => List.mem_cons_of_mem _ (hdl k hk)⟩
      · exact ⟨(h.lab k hk).1, fun k' hk' => List.mem_cons_of_mem _ ((h.lab k hk).2 k' hk')⟩
    · rcases List.mem_cons.1 hk with rfl | hk
      · exact ⟨o, hi, hV⟩
      · exact h.uv k hk
    · rcases List.mem_cons.1 hk with rfl | hk
      · have hl : ∀ t ∈ o.looksAt ops, (A.put d x).t t = A.t t := fun t ht => hout t fun hh => hf.own d hd (hh ▸ ht)
        refine stands_iff.2 ⟨o, d, hi, hd, ?_⟩
        rw [qd hl, show (A.put d x).t d = x by simp [Fr.put]]
        exact hst.imp (fun h => ⟨h.1, zai (ev' := (A.put d x).ev) (zc1 hl) h.2⟩) id
      · obtain ⟨o', ho', hV'⟩ := h.uv k hk
        have hkj : k ≠ j := fun hh => hjL (hh ▸ h.usub k hk)
        refine v8 ho' (h.std k hk) (fun t ht => hout t fun hh => ?_) (fun d' hd' => hout d' fun hh => hf.one d hd k o' ho' hkj (hh ▸ hd')) (.inl ⟨rfl, rfl⟩)
        subst hh
        rcases hf.look t hd k o' ho' hkj ht with h5 | ⟨h5, _⟩
        · exact hjL ((h.lab k (h.usub k hk)).2 j h5)
        · rw [hV] at h5; cases h5
    · obtain ⟨β, sim⟩ := h.sim
      refine ⟨β, sim.weaken rfl fun t => ?_⟩
      have hds : y6 ops (j :: U) = d :: y6 ops U := by simp [y6, hi, hd]
      rw [hds]
      by_cases ht : t = d
      · subst ht; right; simp [zq, mem]
      · by_cases hm : t ∈ y6 ops U
        · right; simp [zq, mem, nbeq ht, (yz _ _).2 hm]
        · left; simp [zq, mem, nbeq ht, qi hm, Fr.put]
  rcases guardK_iff.1 hv with ⟨hg, hv⟩ | ⟨hg, hv⟩
  · have : ∃ x, vcDr P c ops K r (A.put d x) st /\ vcW c A.ev A.bx st d o.op fun y => y = x := zkx hI hv
    obtain ⟨x, h1, h2⟩ := this
    exact key x h1 (.inl ⟨hg, h2⟩)
  · exact key .und hv (.inr ⟨hg, rfl⟩)
end
theorem zj5 (hI : zp P c.I) (hops : wu c ops = true) {K : Fr -> Store -> Prop} {fuel : Nat}
    (ih : ∀ (S : Sched) (listed : Array Bool) (Lab U : List Nat) (A : Fr) (st : Store) (M : Nat -> Nat -> Prop) (a : Act) (w : World), yj c ops S Lab true = true -> vcDr P c ops K S A st -> DInv c ops Oth M0 w0 listed Lab U A st M a w -> left ops listed = fuel ->
      wpAny P .any ops (vx c Oth M0 w0 K) fuel listed a w) {listed : Array Bool} {M : Nat -> Nat -> Prop} {a : Act} {w : World} {st : Store} (hl : left ops listed = fuel + 1) {i : Nat} (hr : i ∈ Region.ready .any ops listed) :
    ∀ (S : Sched) (Lab U : List Nat) (A : Fr), yj c ops S Lab true = true -> vcDr P c ops K S A st -> DInv c ops Oth M0 w0 listed Lab U A st M a w ->
      wpOp P ops (vx c Oth M0 w0 K) i (wpAny P .any ops (vx c Oth M0 w0 K) fuel (listed.setIfInBounds i true)) a w := by
  obtain ⟨hun, hilt, hdeps⟩ := ready_iff.1 hr
  intro S
  induction S with
  | done =>
    intro Lab U A hs hv h
    by_cases hU : i ∈ U
    · exact h.pend hI hops hr hU fun U' M' a' w' h' => ih .done _ _ _ _ _ _ _ _ hs hv h' (by have := w8 h.lsz hilt hun; omega)
    · simp only [yj, Bool.true_and] at hs
      exact absurd ⟨(yz _ _).1 (all_range.1 hs i hilt), hU⟩ ((h.listed_iff hilt).1 hun)
  | stop => intro Lab U A hs; simp [yj] at hs
  | v j r ihr =>
    intro Lab U A hs hv h
    by_cases hU : i ∈ U
    · exact h.pend hI hops hr hU fun U' M' a' w' h' => ih (.v j r) _ _ _ _ _ _ _ _ hs hv h' (by have := w8 h.lsz hilt hun; omega)
    · obtain ⟨A', h1, h2, h3⟩ := h.move hI hops hs hv
      exact ihr _ _ A' h1 h2 h3
  | e j chk r alt _ _ =>
    intro Lab U A hs hv h
    by_cases hU : i ∈ U
    · exact h.pend hI hops hr hU fun U' M' a' w' h' => ih (.e j chk r alt) _ _ _ _ _ _ _ _ hs hv h' (by have := w8 h.lsz hilt hun; omega)
    · have hiL : i ∉ Lab := fun hm => (h.listed_iff hilt).1 hun ⟨hm, hU⟩
      have hin : i ∈ zes (.e j chk r alt) := by
        have hs2 := hs
        simp only [yj, Bool.and_eq_true, Bool.not_true, Bool.false_or] at hs2
        have h1 := all_range.1 hs2.2 i hilt
        simp only [Bool.or_eq_true, Bool.not_eq_true', qi hiL, Bool.false_eq_true, false_or] at h1
        rcases h1 with h1 | h1
        · have : sub (yl ops i) Lab = true := by
            unfold sub
            rw [List.all_eq_true]
            intro k hk
            have hlt : k < ops.size := by
              have := (yw hops (Array.getElem?_eq_getElem hilt)).lt k hk
              omega
            exact (yz _ _).2 ((h.lst k hlt).1 (hdeps k hk)).1
          rw [this] at h1; cases h1
        · exact (yz _ _).1 h1
      obtain ⟨chk', r', h1, h2, h3⟩ := zoy _ true hs hv hin
      exact h.eff hI hops hr h1 h3 fun A' st' M' a' w' h4 h5 => ih r' _ _ _ _ _ _ _ _ h2 h4 h5 (by have := w8 h.lsz hilt hun; omega)
theorem zoo (hI : zp P c.I) (hops : wu c ops = true) {K : Fr -> Store -> Prop} : ∀ (fuel : Nat) (S : Sched) (listed : Array Bool) (Lab U : List Nat) (A : Fr) (st : Store) (M : Nat -> Nat -> Prop) (a : Act) (w : World), yj c ops S Lab true = true -> vcDr P c ops K S A st -> DInv c ops Oth M0 w0 listed Lab U A st M a w -> left ops listed = fuel ->
      wpAny P .any ops (vx c Oth M0 w0 K) fuel listed a w := by
  intro fuel
  induction fuel with
  | zero =>
    intro S listed Lab U A st M a w hs hv h hl
    refine ⟨?_, h.done hops hs hv hl⟩
    cases hr : Region.ready .any ops listed with
    | nil => rfl
    | cons i rs =>
      have hi : i ∈ Region.ready .any ops listed := by rw [hr]; exact List.mem_cons_self
      obtain ⟨h1, h2, _⟩ := ready_iff.1 hi
      rw [zdy hl h2] at h1
      cases h1
  | succ fuel ih =>
    intro S listed Lab U A st M a w hs hv h hl
    refine ⟨fun hr => absurd hr (h.ready_ne hops hl), fun i hi => zj5 hI hops ih hl hi S Lab U A hs hv h⟩
theorem zks {ops : Array Oper} (hd : ∀ (i : Nat) (o : Oper), ops[i]? = some o -> ∀ cl, o.op ≠ .defer cl) {Q : Exit -> Act -> World -> Prop} {i : Nat} {K K' : Act -> World -> Prop} {a : Act} {w : World} (hk : ∀ a w, K a w -> K' a w) (h : wpOp P ops Q i K a w) (hn : ∀ e a w, e ≠ .normal -> ¬ Q e a w) : wpOpIn c.F 0 P ops Q i K' a w := by
  unfold wpOp at h
  unfold wpOpIn
  split
  · rename_i hi; simp only [hi] at h; exact hk _ _ h
  · rename_i o hi
    simp only [hi] at h
    split
    · rename_i hw
      simp only [hw, if_true] at h
      rcases h with h | ⟨_, a1, w1, h⟩
      · exact zew hk hn (Oper.wpIn_F (hd i o hi) h)
      · exact (hn _ _ _ (by simp) h).elim
    · rename_i hw
      simp only [hw] at h
      exact ⟨fun _ _ => Tv, hk _ _ h⟩
theorem zh8 {ops : Array Oper} (hd : ∀ (i : Nat) (o : Oper), ops[i]? = some o -> ∀ cl, o.op ≠ .defer cl) {Q : Exit -> Act -> World -> Prop} (hn : ∀ e a w, e ≠ .normal -> ¬ Q e a w) {md : Region.Mode} : ∀ (fuel : Nat) (listed : Array Bool) (a : Act) (w : World), wpAny P md ops Q fuel listed a w -> wpAnyIn c.F 0 P md ops Q fuel listed a w := by
  intro fuel
  induction fuel with
  | zero => intro listed a w h; exact h
  | succ fuel ih => intro listed a w h; exact ⟨h.1, fun i hi => zks hd (fun a w h => ih _ a w h) (h.2 i hi) hn⟩
/-- A region whose order is drawn, by its schedule. -/
theorem ADraw.of_sched (hI : zp P c.I) (hm : P.follows .mixedOrders = true) (hops : wu c ops = true) {K : Fr -> Store -> Prop} {A : Fr} {st : Store} (S : Sched) (hs : yj c ops S [] true = true) (hv : vcDr P c ops K S A st) : ADraw P c ops K A st := by
  refine ⟨fun id => ⟨fun Oth M a w sim => wpIn_region_any hm (zh8 (fun i o hi => (yw hops hi).nd) ?_ _ _ _ _ ?_)⟩⟩
  · rintro e a' w' hne ⟨A', st', M', h, _⟩
    cases e <;> first | exact hne rfl | exact h
  obtain ⟨β, sim⟩ := sim
  have g := Grow.drew w
  have hinv : DInv c ops Oth M w (Array.replicate ops.size false) [] [] A st M a w.drew :=
    ⟨by simp, fun i hi => by simp [hi], fun i h => (by cases h), fun i h => (by cases h), fun i h => (by cases h), fun i h => (by cases h), ⟨β, sim.grow g⟩, g.chg M, fun i hi hl => by simp [hi] at hl⟩
  have hl : left ops (Array.replicate ops.size false) = ops.size := by
    unfold left
    have : (List.range ops.size).countP (fun i => !(Array.replicate ops.size false).getD i true) = (List.range ops.size).length := by
      rw [List.countP_eq_length]
      intro i hi
      simp [List.mem_range.1 hi]
    rw [this, List.length_range]
  exact zoo hI hops ops.size S _ [] [] A st M a w.drew hs hv hinv hl
end
end Go.V
namespace Go.V
/-- A function's end. -/
theorem ret {x : AV} {st : Store} {R : AV -> Store -> Prop} (h : R x st) : ∃ r st', AV.le x r /\ st.Has st' /\ R r st' := ⟨x, st, Tt, Store.Has.refl _, h⟩
theorem wb {x r : AV} {st st' : Store} {R : AV -> Store -> Prop} (h : AV.le x r) (k : st.Has st') (q : R r st') : ∃ r st', AV.le x r /\ st.Has st' /\ R r st' := ⟨r, st', h, k, q⟩
theorem optR {α : Type} {x : α} {K : α -> Prop} (h : K x) : optK (some x) K := h
/-- Tests. -/
theorem bcd {c : Prop} [Decidable c] {p q : Prop} (h : c -> p) (h' : ¬ c -> q) : v7 (decide c) p q := zf (fun e => h (of_decide_eq_true e)) (fun e => h' (of_decide_eq_false e))
theorem bceq {a b : Int} {p q : Prop} (h : a = b -> p) (h' : a ≠ b -> q) : v7 (a == b) p q := zf (fun e => h (eq_of_beq e)) (fun e => h' (ne_of_beq_false e))
theorem bcne {a b : Int} {p q : Prop} (h : a ≠ b -> p) (h' : a = b -> q) : v7 (a != b) p q := by
  refine zf (fun e => h ?_) (fun e => h' ?_) <;> simpa using e
theorem j5 {b : Bool} {p q : Prop} (h : v7 b q p) : v7 (!b) p q := by cases b <;> exact h
/-- The lower bound and the upper one. -/
theorem in64 {v : Int} {K : Prop} (h : -9223372036854775808 <= v /\ v <= 9223372036854775807) (k : K) : yu v /\ K := ⟨h, k⟩
end Go.V
namespace Go.V
theorem Fresh.ne_obj {st : Store} {b p : Nat} {x : AObj} (h : Fresh st b) (hp : st.obj p = some x) : b ≠ p := fun e => by rw [<- e, h.1] at hp; cases hp
theorem zb (st : Store) (p : Nat) (x : AObj) : (st.setObj p x).obj p = some x := by simp [Store.setObj]
theorem zc {st : Store} {p b : Nat} {x : AObj} (h : b ≠ p) : (st.setObj p x).obj b = st.obj b := by simp [Store.setObj, nbeq h]
theorem zis {st : Store} {p b : Nat} {x : Option Nat} (h : b ≠ p) : (st.setTok p x).tok b = st.tok b := by simp [Store.setTok, nbeq h]
theorem zi (st : Store) (p : Nat) (x y : AObj) : (st.setObj p x).setObj p y = st.setObj p y := by
  unfold Store.setObj
  congr
  funext i
  by_cases hi : i = p
  · subst hi; simp
  · simp [nbeq hi]
theorem zd7 {st : Store} {p b : Nat} {x : AObj} (h : Fresh st b) (hn : b ≠ p) : Fresh (st.setObj p x) b := ⟨by rw [zc hn]; exact h.1, h.2⟩
theorem k6 (st : Store) (p b : Nat) (x : AObj) (y : Option Nat) : (st.setTok b y).setObj p x = (st.setObj p x).setTok b y := rfl
/-- An object beside a growing slice is changed. -/
theorem App.setObj {k : Nat} {st st' : Store} {v : AV} {rows : List (List AV)} {p : Nat} {x y : AObj} (h : App k (st.setObj p x) v rows st') : App k (st.setObj p y) v rows (st'.setObj p y) := by
  rcases h with ⟨h1, h2, rfl⟩ | ⟨h1, h2, rfl⟩ | ⟨h1, b, hb, h2, rfl⟩
  · rw [zi]; exact .inl ⟨h1, h2, rfl⟩
  · rw [zi]; exact .inr (.inl ⟨h1, h2, rfl⟩)
  · have hne : b ≠ p := fun e => by have := hb.1; rw [e, zb] at this; cases this
    refine .inr (.inr ⟨h1, b, ?_, h2, ?_⟩)
    · exact ⟨by rw [zc hne]; have := hb.1; rwa [zc hne] at this, hb.2⟩
    · rw [k6, zi]
theorem App.fresh {k : Nat} {st st' : Store} {v : AV} {rows : List (List AV)} {p : Nat} (h : App k st v rows st') (hp : Fresh st' p) : st.obj p = none := by
  cases ho : st.obj p with
  | none => rfl
  | some x => have := h.has.obj p x ho; rw [hp.1] at this; cases this
theorem xb {st : Store} {p : Nat} {x : AObj} (h : st.obj p = none) : (st.setObj p x).Has st :=
  ⟨fun b y hb => by
    have : b ≠ p := fun e => by rw [e, h] at hb; cases hb
    rw [zc this]; exact hb, fun _ _ h => h⟩
theorem App.obj {k : Nat} {st st' : Store} {v : AV} {rows : List (List AV)} (h : App k st v rows st') (p : Nat) : st'.obj p = st.obj p := by
  rcases h with ⟨_, _, rfl⟩ | ⟨_, _, rfl⟩ | ⟨_, _, _, _, rfl⟩ <;> rfl
theorem App.read {k : Nat} {st st' : Store} {v : AV} {rows : List (List AV)} {p : Nat} {x : AObj} (h : App k (st.setObj p x) v rows st') : st'.obj p = some x := by rw [h.obj, zb]
theorem App.src {k : Nat} {st st' : Store} {v : AV} {rows : List (List AV)} (h : App k st v rows st') : yy k (.av v) = some rows := by
  rcases h with ⟨rfl, rfl, _⟩ | ⟨rfl, rfl, _⟩ | ⟨_, b, _, rfl, _⟩
  · rfl
  · rfl
  · simp [yy]
theorem App.split {k : Nat} {st st' : Store} {v : AV} {rows : List (List AV)} {p : Nat} {x : AObj} (h : App k (st.setObj p x) v rows st') : ∃ st1 : Store, st' = st1.setObj p x /\ st1.Has st /\ ∀ y, App k (st.setObj p y) v rows (st1.setObj p y) := by
  rcases h with ⟨h1, h2, rfl⟩ | ⟨h1, h2, rfl⟩ | ⟨h1, b, hb, h2, rfl⟩
  · exact ⟨st, rfl, Store.Has.refl _, fun y => .inl ⟨h1, h2, rfl⟩⟩
  · exact ⟨st, rfl, Store.Has.refl _, fun y => .inr (.inl ⟨h1, h2, rfl⟩)⟩
  · have hne : b ≠ p := fun e => by have := hb.1; rw [e, zb] at this; cases this
    have hf : Fresh st b := ⟨by have := hb.1; rwa [zc hne] at this, hb.2⟩
    refine ⟨st.setTok b (some (rows.length * k)), (k6 _ _ _ _ _).symm, ⟨fun _ _ h => h, fun i y hi => ?_⟩, fun y => .inr (.inr ⟨h1, b, zd7 hf hne, h2, rfl⟩)⟩
    have : i ≠ b := fun e => by rw [e, hf.2] at hi; cases hi
    rw [zis this]; exact hi
theorem ACalls.drop {P : Program} {f : FuncId} {xs : List AV} {st st' : Store} {R : AV -> Store -> Prop} (h : st.Has st') (hc : ACalls P f xs st' R) : ACalls P f xs st R := by
  refine ⟨fun Oth M w vs sto hr => ?_⟩
  have h1 := hc.out Oth M w vs (sto.weaken h) hr
  have k : ∀ v w', zl st' R Oth M w v w' -> zl st R Oth M w v w' := fun v w' ⟨r, st1, M', h1, h2, h3, h4⟩ => ⟨r, st1, M', h1, h2, h3, h4⟩
  generalize (callFunc f vs).run P w = res at h1
  cases res with
  | ok n w' =>
    cases n with
    | enter g args => exact Calls.mono h1 fun e w'' ⟨v, he, hv⟩ => ⟨v, he, k _ _ hv⟩
    | value v => exact k _ _ h1
    | _ => exact h1
  | _ => exact h1
theorem App.cells {k : Nat} {st st' : Store} {v : AV} {rows : List (List AV)} (h : App k st v rows st') : cellsOf v = some [v] := by
  rcases h with ⟨rfl, rfl, _⟩ | ⟨rfl, rfl, _⟩ | ⟨_, b, _, rfl, _⟩ <;> rfl
theorem App.lst {k : Nat} {st st' : Store} {v : AV} {rows : List (List AV)} (h : App k st v rows st') (hne : rows ≠ []) : ∃ b, v = .lst k rows (some b) := by
  rcases h with ⟨_, h, _⟩ | ⟨_, h, _⟩ | ⟨_, b, _, h, _⟩
  · exact absurd h hne
  · exact absurd h hne
  · exact ⟨b, h⟩
theorem App.one {k : Nat} {st st' : Store} {v : AV} {rows : List (List AV)} (h : App k st v rows st') : v.one = true := by
  rcases h with ⟨rfl, rfl, _⟩ | ⟨rfl, rfl, _⟩ | ⟨_, b, _, rfl, _⟩ <;> rfl
/-- A store of one cell into an object. -/
theorem j7 {i : TI} {A : Fr} {st : Store} {b o : Nat} {v : AV} {l : List AV} {K : Fr -> Store -> Prop} (hc : cellsOf v = some [v]) (h1 : v.one = true) (hi : i.size = 1) (ho : st.obj b = some (.cells l)) (hl : o + 1 <= l.length)
    (hk : K A (st.setObj b (.cells (zt l o [v])))) : zao i A st (.av (.s (.pointer (some ⟨b, o, none⟩)))) v K := by
  unfold zao
  rw [hc]
  show (bif Nat.beq 1 i.size && ([v].all AV.one) then _ else False)
  rw [hi]
  simp only [List.all_cons, h1, List.all_nil, Nat.beq_refl, Bool.and_self, cond_true]
  rw [ho]
  exact ⟨hl, jz hk⟩
theorem zo {i : TI} {A : Fr} {st st2 : Store} {b o : Nat} {v : AV} {l : List AV} {K : Fr -> Store -> Prop} (hc : cellsOf v = some [v]) (h1 : v.one = true) (hi : i.size = 1) (ho : st.obj b = some (.cells l)) (hl : o + 1 <= l.length)
    (he : st.setObj b (.cells (zt l o [v])) = st2) (hk : K A st2) : zao i A st (.av (.s (.pointer (some ⟨b, o, none⟩)))) v K :=
  j7 hc h1 hi ho hl (he ▸ hk)
end Go.V
namespace Go.V
def u8 (b : UInt8) : AV := .s (.int .u8 b.toNat)
def int (n : Int) : AV := .s (.int .i64 n)
def u64 (n : Int) : AV := .s (.int .u64 n)
def bool (b : Bool) : AV := .s (.bool b)
def nil : AV := .s (.slice none 0 0)
/-- A list's elements as rows of cells. -/
def rws {α : Type} (f : α -> List AV) (l : List α) : List (List AV) := l.map f
def lst {α : Type} (k : Nat) (f : α -> List AV) (l : List α) : AV := .lst k (rws f l) none
section
variable {α : Type} {f : α -> List AV}
theorem zk (l : List α) : (rws f l).length = l.length := by simp [rws]
theorem z6 {l : List α} {i : Nat} (h : i < l.length) : (rws f l)[i]? = some (f l[i]) := by simp [rws, h]
theorem zn5 {l : List α} {i : Nat} (h : i < l.length) : rws f (l.take i) ++ [f l[i]] = rws f (l.take (i + 1)) := by
 unfold rws; rw [List.take_succ_eq_append_getElem h, List.map_append]; rfl
theorem zsg (a b : List α) : rws f a ++ rws f b = rws f (a ++ b) := by simp [rws]
theorem zjc {l : List α} {i : Nat} (h : decide ((i : Int) < ((rws f l).length : Int)) = true) : i < l.length := by
 rw [zk] at h; simpa using h
theorem ztu {l : List α} {i : Nat} (h : decide ((i : Int) < ((rws f l).length : Int)) = false) (h2 : i <= l.length) : i = l.length := by
 rw [zk] at h; simp at h; omega
end
def u8C (b : UInt8) : List AV := [u8 b]
def intC (n : Int) : List AV := [int n]
def byts (l : List UInt8) : AV := lst 1 u8C l
def ints (l : List Int) : AV := lst 1 intC l
theorem isF {R : AV -> Store -> Prop} {b : Bool} {st : Store} (h : R (bool b) st) (hb : b = false) : R (bool false) st := by rw [hb] at h; exact h
theorem isT {R : AV -> Store -> Prop} {b : Bool} {st : Store} (h : R (bool b) st) (hb : b = true) : R (bool true) st := by rw [hb] at h; exact h
/-- The program's data. -/
structure Gnd where
 W : Int
 H : Int
 T : List UInt8
 deriving DecidableEq
structure Cmd where
 P : Int
 S : Int
 K : Int
 N : Int
 U : List Int
 T : Int
 W : Int
 H : Int
 X : Int
 Y : Int
 deriving DecidableEq
structure Frm where
 turn : Int
 C : List Cmd
 hash : Int
 deriving DecidableEq
structure Rep where
 P : Int
 G : Gnd
 F : List Frm
 deriving DecidableEq
def gndC (g : Gnd) : List AV := [int g.W, int g.H, byts g.T]
def Cmd.fits (c : Cmd) : Prop := c.U.length <= 1000000000000
def Frm.fits (f : Frm) : Prop := f.C.length <= 1000000000000 /\ ∀ c ∈ f.C, c.fits
def Gnd.fits (g : Gnd) : Prop := g.T.length <= 1000000000000
def Rep.fits (r : Rep) : Prop := r.G.fits /\ r.F.length <= 1000000000000 /\ ∀ f ∈ r.F, f.fits
/-- What a replay's parts may be. -/
def gndP (g : Gnd) : Prop := (1 <= g.W /\ g.W <= 128) /\ (1 <= g.H /\ g.H <= 128) /\ (g.T.length : Int) = g.W * g.H /\ ∀ t ∈ g.T, t.toNat <= 5
def jd (x y : Int) : Prop := (-1099511627776 <= x /\ x <= 1099511627776) /\ (-1099511627776 <= y /\ y <= 1099511627776)
/-- What of a command is of its kind. -/
def Cmd.only (c : Cmd) : Cmd :=
 if c.K = 1 then ⟨c.P, c.S, c.K, c.N, [], 0, 0, 0, c.X, c.Y⟩ else
 if c.K = 2 then ⟨c.P, c.S, c.K, 0, c.U, c.T, 0, 0, 0, 0⟩ else
 if c.K = 3 then ⟨c.P, c.S, c.K, 0, c.U, 0, 0, 0, 0, 0⟩ else
 if c.K = 4 then ⟨c.P, c.S, c.K, 0, [], c.T, c.W, c.H, 0, 0⟩ else
 if c.K = 5 then ⟨c.P, c.S, c.K, c.N, [], 0, 0, 0, 0, 0⟩ else
 if c.K = 6 then ⟨c.P, c.S, c.K, c.N, c.U, 0, 0, 0, 0, 0⟩ else
 if c.K = 7 then ⟨c.P, c.S, c.K, c.N, [], c.T, 0, 0, 0, 0⟩ else
 ⟨c.P, c.S, c.K, 0, [], 0, 0, 0, 0, 0⟩
/-- Lists of values, one by one. -/
def leL : List AV -> List AV -> Prop
 | [], [] => True
 | x :: xs, y :: ys => AV.le x y /\ leL xs ys
 | _, _ => False
theorem zct : ∀ {xs ys : List AV}, leL xs ys -> xs.length = ys.length /\ ∀ (i : Nat) (x y : AV), xs[i]? = some x -> ys[i]? = some y -> AV.le x y := by
 intro xs
 induction xs with
 | nil =>
  intro ys h
  cases ys with
  | nil => exact ⟨rfl, fun i x y h => by simp at h⟩
  | cons y ys => exact h.elim
 | cons x xs ih =>
  intro ys h
  cases ys with
  | nil => exact h.elim
  | cons y ys =>
   obtain ⟨h1, h2⟩ := ih h.2
   refine ⟨by simp [h1], fun i u v hu hv => ?_⟩
   cases i with
   | zero => simp at hu hv; subst hu hv; exact h.1
   | succ i => exact h2 i u v (by simpa using hu) (by simpa using hv)
theorem AV.le_aggL {xs ys : List AV} (h : leL xs ys) : AV.le (.agg xs) (.agg ys) := AV.le_agg (zct h).1 (zct h).2
theorem ziy {w : World} {T : Nat -> Nat -> Prop} {xs ys : List AV} {vs : List Value} (h : leL xs ys) (hr : Reads w T xs vs) : Reads w T ys vs := by
 obtain ⟨h1, h2⟩ := zct h
 refine ⟨by rw [<- h1]; exact hr.1, fun i y v hy hv => ?_⟩
 have hi : i < xs.length := by
  have := (List.getElem?_eq_some_iff.1 hy).1
  omega
 exact h2 i xs[i] y (List.getElem?_eq_getElem hi) hy w T v (hr.2 i _ v (List.getElem?_eq_getElem hi) hv)
theorem ACalls.le {P : Program} {f : FuncId} {xs ys : List AV} {st : Store} {R : AV -> Store -> Prop} (h : leL xs ys) (hc : ACalls P f ys st R) : ACalls P f xs st R :=
 ⟨fun Oth M w vs sto hr => hc.out Oth M w vs sto (ziy h hr)⟩
theorem znx {a b : Int} (h1 : 1 <= a /\ a <= 128) (h2 : 1 <= b /\ b <= 128) : 1 <= a * b /\ a * b <= 16384 := by
 have h3 : a * b <= 128 * 128 := Int.mul_le_mul h1.2 h2.2 (by omega) (by omega)
 have h4 : 0 < a * b := Int.mul_pos (by omega) (by omega)
 omega
def cmpZ (a b : Int) : Int := if a < b then -1 else if a > b then 1 else 0
end Go.V
namespace Go.V
theorem zcg {v : Int} (h : 0 <= v) (h2 : v < 18446744073709551616) : IntKind.u64.wrap v = v := by
 have : IntKind.u64.wrap v = v % 18446744073709551616 := by simp [IntKind.wrap, IntKind.bits, IntKind.signed]
 rw [this]; omega
/-- P4.2: a number: it, its bytes, the error. -/
def ztt : List UInt8 -> Nat -> Int -> Int × Nat × Int
 | [], _, _ => (0, 0, 11)
 | c :: l, i, n =>
  if (128 <= c.toNat /\ i = 8) \/ (c.toNat = 0 /\ 0 < i) then (0, 0, 1)
  else if c.toNat < 128 then (n + (c.toNat % 128 : Nat) * 128 ^ i, i + 1, 0)
  else ztt l (i + 1) (n + (c.toNat % 128 : Nat) * 128 ^ i)
def zjw (b : List UInt8) : Int × Nat × Int := ztt b 0 0
/-- A number that may be below 0, of one that may not. -/
def zig (n : Int) : Int := if n % 2 = 0 then n / 2 else -(n / 2) - 1
def zts (b : List UInt8) : Int × Nat × Int := (zig (zjw b).1, (zjw b).2.1, (zjw b).2.2)
/-- The program's reader: what is left, and what is wrong. -/
structure Rd where
 b : List UInt8
 e : Int
 deriving DecidableEq
def Rd.fail (s : Rd) (e : Int) : Rd := if s.e = 0 then ⟨s.b, e⟩ else s
def Rd.must (s : Rd) (ok : Bool) : Rd := if ok then s else s.fail 1
def Rd.take (s : Rd) (n : Int) (k : Nat) (e : Int) : Int × Rd := if (s.fail e).e ≠ 0 then (0, s.fail e) else (n, ⟨s.b.drop k, 0⟩)
def inB (n lo hi : Int) : Bool := decide (lo <= n /\ n <= hi)
def Rd.got (s : Rd) (g : Int × Nat × Int) (lo hi : Int) : Int × Rd :=
 if s.e ≠ 0 then (0, s) else ((s.take g.1 g.2.1 g.2.2).1, (s.take g.1 g.2.1 g.2.2).2.must (inB (s.take g.1 g.2.1 g.2.2).1 lo hi))
def Rd.int (s : Rd) (lo hi : Int) : Int × Rd := s.got (zts s.b) lo hi
def Rd.byte (s : Rd) : UInt8 × Rd :=
 if s.e ≠ 0 then (0, s) else match s.b with | [] => (0, ⟨[], 11⟩) | c :: l => (c, ⟨l, 0⟩)
def Rd.same (s : Rd) (l : List UInt8) : Rd := l.foldl (fun s c => s.byte.2.must (s.byte.1 == c)) s
def Rd.fin (s : Rd) : Rd := s.must (s.b.length == 0)
end Go.V
namespace Go.V
end Go.V
namespace Go.V
end Go.V
namespace Go.V
end Go.V
namespace Go.V
end Go.V
namespace Go.V
end Go.V
namespace Go.V
end Go.V
namespace Go.V
end Go.V
namespace Go.V
/-- A number as it counts. -/
def nrm (a : Int) : Int := if a < -9223372036854775807 then -9223372036854775807 else a
theorem ztn (n : Int) : max2 n (Int.negSucc 9223372036854775806) = nrm n := by
 have e : Int.negSucc 9223372036854775806 = -9223372036854775807 := rfl
 unfold max2 nrm
 rw [e]
 by_cases h : n < -9223372036854775807
 ·simp [h]
 ·simp [h]
theorem wv {n : Int} (h : yu n) : -9223372036854775807 <= nrm n /\ nrm n <= 9223372036854775807 := by
 unfold yu at h
 unfold nrm
 split <;> omega
theorem xl {n : Int} (h : -9223372036854775807 <= n) : nrm n = n := by unfold nrm; rw [if_neg (by omega)]
def vi (s : Int) : Int := if s > 9223372036854775807 then 9223372036854775807 else if s < -9223372036854775807 then -9223372036854775807 else s
def fadd (a b : Int) : Int := vi (nrm a + nrm b)
def fsub (a b : Int) : Int := fadd a (-nrm b)
theorem zkc (s : Int) : -9223372036854775807 <= vi s /\ vi s <= 9223372036854775807 := by
 unfold vi; split
 ·omega
 ·split <;> omega
theorem zed (a b : Int) : -9223372036854775807 <= fadd a b /\ fadd a b <= 9223372036854775807 := zkc _
theorem zb4 (a b : Int) : -9223372036854775807 <= fsub a b /\ fsub a b <= 9223372036854775807 := zkc _
theorem zc0 (a b : Int) : yu (fadd a b) := by have := zed a b; unfold yu; omega
theorem jx (a b : Int) : yu (fsub a b) := by have := zb4 a b; unfold yu; omega
/-- How great. -/
def asz (a : Int) : Int := if nrm a < 0 then -nrm a else nrm a
theorem zhy {n : Int} (h : yu n) : 0 <= asz n /\ asz n <= 9223372036854775807 := by
 have := wv h
 unfold asz; split <;> omega
/-- A number of 128 bits. -/
def zbe (n : Int) : List AV := [u64 (n / 18446744073709551616), u64 (n % 18446744073709551616)]
theorem zdf (v : Int) : IntKind.u64.wrap v = v % 18446744073709551616 := by simp [IntKind.wrap, IntKind.bits, IntKind.signed]
theorem zs2 {a : Int} (h : 0 <= a) : zcd .and .u64 a 4294967295 = a % 4294967296 := by
 obtain ⟨n, rfl⟩ := Int.eq_ofNat_of_zero_le h
 show IntKind.u64.wrap ((BitVec.ofInt 64 (n : Int) &&& BitVec.ofInt 64 (4294967295 : Int)).toNat : Int) = _
 rw [zdf]
 have e1 : BitVec.ofInt 64 (n : Int) = BitVec.ofNat 64 n := BitVec.ofInt_natCast ..
 have e2 : BitVec.ofInt 64 (4294967295 : Int) = BitVec.ofNat 64 4294967295 := rfl
 rw [e1, e2, BitVec.toNat_and, BitVec.toNat_ofNat, BitVec.toNat_ofNat]
 have e3 : (4294967295 : Nat) % 2 ^ 64 = 2 ^ 32 - 1 := by decide
 rw [e3, Nat.and_two_pow_sub_one_eq_mod]
 omega
theorem zt1 (a : Int) : a.fdiv (2 ^ (min (32 : Int).toNat IntKind.u64.bits)) = a / 4294967296 := by
 have : (min (32 : Int).toNat IntKind.u64.bits) = 32 := by decide
 rw [this]
 rw [Int.fdiv_eq_ediv_of_nonneg _ (by decide)]
 rfl
theorem zpa {n hi lo : Int} (h1 : hi = n / 18446744073709551616) (h2 : lo = n % 18446744073709551616) : [AV.s (.int .u64 hi), AV.s (.int .u64 lo)] = zbe n := by subst h1 h2; rfl
/-- The parts of a product. -/
theorem ze2 (x y : Int) (hx : 0 <= x) (hx2 : x < 18446744073709551616) (hy : 0 <= y) (hy2 : y < 18446744073709551616) :
  ∃ p00 p10 p01 p11 : Int, p00 = (x % 4294967296) * (y % 4294967296) /\ p10 = (x / 4294967296) * (y % 4294967296) /\ p01 = (x % 4294967296) * (y / 4294967296) /\ p11 = (x / 4294967296) * (y / 4294967296) ∧
   x * y = p11 * 18446744073709551616 + (p10 + p01) * 4294967296 + p00 /\ 0 <= p00 /\ p00 <= 18446744065119617025 /\ 0 <= p10 /\ p10 <= 18446744065119617025 /\ 0 <= p01 /\ p01 <= 18446744065119617025 /\ 0 <= p11 /\ p11 <= 18446744065119617025 := by
 have b : ∀ u v : Int, 0 <= u -> u <= 4294967295 -> 0 <= v -> v <= 4294967295 -> 0 <= u * v /\ u * v <= 18446744065119617025 := by
  intro u v h1 h2 h3 h4
  refine ⟨Int.mul_nonneg h1 h3, ?_⟩
  have h5 : u * v <= 4294967295 * 4294967295 := Int.mul_le_mul h2 h4 h3 (by decide)
  exact h5
 refine ⟨_, _, _, _, rfl, rfl, rfl, rfl, ?_, ?_⟩
 ·have h1 : x = (x / 4294967296) * 4294967296 + x % 4294967296 := by omega
  have h2 : y = (y / 4294967296) * 4294967296 + y % 4294967296 := by omega
  generalize x / 4294967296 = a at *
  generalize x % 4294967296 = b at *
  generalize y / 4294967296 = c at *
  generalize y % 4294967296 = d at *
  rw [h1, h2]
  simp only [Int.add_mul, Int.mul_add]
  have e1 : a * 4294967296 * (c * 4294967296) = a * c * 18446744073709551616 := by
   rw [Int.mul_assoc, Int.mul_comm 4294967296, Int.mul_assoc c, <- Int.mul_assoc a c]; rfl
  have e2 : a * 4294967296 * d = a * d * 4294967296 := by rw [Int.mul_assoc, Int.mul_comm 4294967296, Int.mul_assoc]
  have e3 : b * (c * 4294967296) = b * c * 4294967296 := by rw [Int.mul_assoc]
  rw [e1, e2, e3]
  omega
 ·obtain ⟨h1, h2⟩ := b (x % 4294967296) (y % 4294967296) (by omega) (by omega) (by omega) (by omega)
  obtain ⟨h3, h4⟩ := b (x / 4294967296) (y % 4294967296) (by omega) (by omega) (by omega) (by omega)
  obtain ⟨h5, h6⟩ := b (x % 4294967296) (y / 4294967296) (by omega) (by omega) (by omega) (by omega)
  obtain ⟨h7, h8⟩ := b (x / 4294967296) (y / 4294967296) (by omega) (by omega) (by omega) (by omega)
  exact ⟨h1, h2, h3, h4, h5, h6, h7, h8⟩
/-- A place, a way. -/
abbrev Vc := Int × Int
def vecC (p : Vc) : List AV := [int p.1, int p.2]
def Vc.ok (p : Vc) : Prop := yu p.1 /\ yu p.2
def vsub (a b : Vc) : Vc := (fsub a.1 b.1, fsub a.2 b.2)
def sqr (v : Vc) : Int := asz v.1 * asz v.1 + asz v.2 * asz v.2
/-- Nearer than 'r'. -/
def near (a b : Vc) (r : Int) : Bool := decide (0 < r /\ sqr (vsub a b) < r * r)
end Go.V
namespace Go.V
end Go.V
namespace Go.V
/-- Two stores side by side. -/
def Store.un (a g : Store) : Store :=
  ⟨fun b => match g.obj b with | some x => some x | none => a.obj b, fun b => match g.tok b with | some x => some x | none => a.tok b⟩
def Store.has (g : Store) (b : Nat) : Prop := g.obj b ≠ none \/ g.tok b ≠ none
def Disj (a g : Store) : Prop := ∀ b, a.has b -> ¬ g.has b
theorem zcp {g : Store} {b : Nat} (h : ¬ g.has b) : g.obj b = none /\ g.tok b = none := by
  constructor
  · cases h1 : g.obj b with
    | none => rfl
    | some x => exact absurd (Or.inl (by rw [h1]; simp)) h
  · cases h1 : g.tok b with
    | none => rfl
    | some x => exact absurd (Or.inr (by rw [h1]; simp)) h
theorem za1 {g : Store} {b : Nat} {x : AObj} (h : g.obj b = some x) : g.has b := .inl (by rw [h]; simp)
theorem zab {g : Store} {b : Nat} {x : Nat} (h : g.tok b = some x) : g.has b := .inr (by rw [h]; simp)
theorem fresh_iff {g : Store} {b : Nat} : Fresh g b ↔ ¬ g.has b :=
  ⟨fun ⟨h1, h2⟩ h => h.elim (fun h => h h1) (fun h => h h2), zcp⟩
theorem un_r {a g : Store} {b : Nat} {x : AObj} (h : g.obj b = some x) : (a.un g).obj b = some x := by simp [Store.un, h]
theorem un_l {a g : Store} {b : Nat} {x : AObj} (hd : Disj a g) (h : a.obj b = some x) : (a.un g).obj b = some x := by
  simp [Store.un, (zcp (hd b (za1 h))).1, h]
theorem zs6 {a g : Store} {b : Nat} {x : Nat} (hd : Disj a g) (h : a.tok b = some x) : (a.un g).tok b = some x := by
  simp [Store.un, (zcp (hd b (zab h))).2, h]
theorem zk0 {a g : Store} {b : Nat} {x : Nat} (h : g.tok b = some x) : (a.un g).tok b = some x := by simp [Store.un, h]
theorem zo2 {a g : Store} {b : Nat} {x : AObj} (h : (a.un g).obj b = some x) : g.obj b = some x \/ (g.obj b = none /\ a.obj b = some x) := by
  simp only [Store.un] at h
  cases h1 : g.obj b with
  | none => rw [h1] at h; exact .inr ⟨rfl, h⟩
  | some y => rw [h1] at h; exact .inl h
theorem zo1 {a g : Store} {b : Nat} {x : Nat} (h : (a.un g).tok b = some x) : g.tok b = some x \/ (g.tok b = none /\ a.tok b = some x) := by
  simp only [Store.un] at h
  cases h1 : g.tok b with
  | none => rw [h1] at h; exact .inr ⟨rfl, h⟩
  | some y => rw [h1] at h; exact .inl h
theorem un_has {a g : Store} {b : Nat} : (a.un g).has b ↔ a.has b \/ g.has b := by
  unfold Store.has Store.un
  simp only
  cases g.obj b <;> cases g.tok b <;> simp
section
variable {P : Program}
/-- What a call does with its own, beside what it does not touch. -/
theorem ACalls.frame {f : FuncId} {xs : List AV} {a g : Store} {R R' : AV -> Store -> Prop} (hd : Disj a g) (h : ACalls P f xs a R) (hR : ∀ r a', R r a' -> Disj a' g -> R' r (a'.un g)) : ACalls P f xs (a.un g) R' := by
  refine ⟨fun Oth M w vs sto hr => ?_⟩
  let gM : Nat -> Nat -> Prop := fun b o => M b o /\ g.has b
  let M1 : Nat -> Nat -> Prop := fun b o => M b o /\ ¬ g.has b
  let O1 : Nat -> Nat -> Prop := fun b o => Oth b o \/ gM b o
  have hT : (fun (b o : Nat) => M1 b o \/ O1 b o) = fun b o => M b o \/ Oth b o := by
    funext b o
    apply propext
    constructor
    · rintro (h | h | h)
      · exact .inl h.1
      · exact .inr h
      · exact .inl h.1
    · rintro (h | h)
      · by_cases hg : g.has b
        · exact .inr (.inr ⟨h, hg⟩)
        · exact .inl ⟨h, hg⟩
      · exact .inr (.inl h)
  have sto1 : StoreOK a O1 M1 w :=
    { obj := fun b x hx => by
        rw [hT]
        have := sto.obj b x (un_l hd hx)
        exact ⟨this.1, fun o => ⟨this.2 o, hd b (za1 hx)⟩⟩
      tok := fun b top hx => by
        obtain ⟨c, e, fr, h1, h2, h3, h4⟩ := sto.tok b top (zs6 hd hx)
        exact ⟨c, e, fr, h1, h2, h3, fun o ho => ⟨h4 o ho, hd b (zab hx)⟩⟩
      mlt := fun b o hm => sto.mlt b o hm.1
      olt := fun b o hm => by
        rcases hm with h | h
        · exact sto.olt b o h
        · exact sto.mlt b o h.1
      dis := fun b o hO hM => by
        rcases hO with h | h
        · exact sto.dis b o h hM.1
        · exact hM.2 h.2 }
  have h1 := h.out O1 M1 w vs sto1 (by rw [hT]; exact hr)
  have key : ∀ v w', zl a R O1 M1 w v w' -> zl (a.un g) R' Oth M w v w' := by
    rintro v w' ⟨r, a', M2, hRr, hv, hsto, hchg⟩
    let M' : Nat -> Nat -> Prop := fun b o => M2 b o \/ gM b o
    have hT2 : (fun (b o : Nat) => M2 b o \/ O1 b o) = fun b o => M' b o \/ Oth b o := by
      funext b o
      apply propext
      constructor
      · rintro (h | h | h)
        · exact .inl (.inl h)
        · exact .inr h
        · exact .inl (.inr h)
      · rintro ((h | h) | h)
        · exact .inl h
        · exact .inr (.inr h)
        · exact .inr (.inl h)
    have hglt : ∀ b, g.has b -> b < w.heap.size := by
      intro b hb
      rcases hb with hb | hb
      · cases hx : g.obj b with
        | none => exact absurd hx hb
        | some x => exact sto.mlt b 0 ((sto.obj b x (un_r hx)).2 0)
      · cases hx : g.tok b with
        | none => exact absurd hx hb
        | some x =>
          obtain ⟨c, e, fr, h1, _⟩ := sto.tok b x (zk0 hx)
          exact zn h1
    have hno : ∀ b o, M2 b o -> ¬ g.has b := fun b o hm hg => (hchg.sub b o hm (hglt b hg)).2 hg
    have hd' : Disj a' g := by
      intro b hb
      rcases hb with hb | hb
      · cases hx : a'.obj b with
        | none => exact absurd hx hb
        | some x => exact hno b 0 ((hsto.obj b x hx).2 0)
      · cases hx : a'.tok b with
        | none => exact absurd hx hb
        | some x =>
          obtain ⟨c, e, fr, h1, h2, h3, h4⟩ := hsto.tok b x hx
          exact hno b x (h4 x (Nat.le_refl _))
    have hblk : ∀ b, g.has b -> w'.heap[b]? = w.heap[b]? := fun b hg => hchg.blk b (hglt b hg) fun o hm => hm.2 hg
    refine ⟨r, a'.un g, M', hR r a' hRr hd', by rw [hT2] at hv; exact hv, ?_, ?_⟩
    · refine { obj := fun b x hx => ?_, tok := fun b top hx => ?_, mlt := fun b o hm => ?_, olt := fun b o hm => Nat.lt_of_lt_of_le (sto.olt b o hm) hchg.size, dis := fun b o hO hM => ?_ }
      · rcases zo2 hx with hx | ⟨_, hx⟩
        · have h5 := sto.obj b x (un_r hx)
          have hk := hchg.keeps (Oth := O1)
          rw [hT, hT2] at hk
          exact ⟨ObjRel.same h5.1 hk (hblk b (za1 hx)), fun o => .inr ⟨h5.2 o, za1 hx⟩⟩
        · have h5 := hsto.obj b x hx
          rw [hT2] at h5
          exact ⟨h5.1, fun o => .inl (h5.2 o)⟩
      · rcases zo1 hx with hx | ⟨_, hx⟩
        · obtain ⟨c, e, fr, h1, h2, h3, h4⟩ := sto.tok b top (zk0 hx)
          exact ⟨c, e, fr, by rw [hblk b (zab hx)]; exact h1, h2, h3, fun o ho => .inr ⟨h4 o ho, zab hx⟩⟩
        · obtain ⟨c, e, fr, h1, h2, h3, h4⟩ := hsto.tok b top hx
          exact ⟨c, e, fr, h1, h2, h3, fun o ho => .inl (h4 o ho)⟩
      · rcases hm with h | h
        · exact hsto.mlt b o h
        · exact Nat.lt_of_lt_of_le (sto.mlt b o h.1) hchg.size
      · rcases hM with h | h
        · exact hsto.dis b o (.inl hO) h
        · exact sto.dis b o hO h.1
    · exact
        { size := hchg.size
          keep := fun b o hb hm => hchg.keep b o hb fun h => hm h.1
          blk := fun b hb hm => hchg.blk b hb fun o h => hm o h.1
          shp := hchg.shp
          sub := fun b o hm hb => by
            rcases hm with h | h
            · exact (hchg.sub b o h hb).1
            · exact h.1
          tape := hchg.tape
          os := hchg.os
          output := hchg.output }
  generalize (callFunc f vs).run P w = res at h1
  cases res with
  | ok n w' =>
    cases n with
    | enter f' args => exact Calls.mono h1 fun e w'' ⟨v, he, hv⟩ => ⟨v, he, key _ _ hv⟩
    | value v => exact key _ _ h1
    | _ => exact h1
  | _ => exact h1
/-- A value that reads by no cell. -/
def flat (r : AV) : Prop := ∀ w T w' T' v, VRel w T r v -> VRel w' T' r v
theorem zo7 (v : Value) : flat (.s v) := fun _ _ _ _ _ h => by cases h; exact .s _
/-- A call that only looks at what is there, in its plain form. -/
theorem ACalls.read {f : FuncId} {xs ys : List AV} {g : Store} {Q : AV -> Prop} {R : AV -> Store -> Prop}
    (hb : ∀ Oth M w vs, StoreOK g Oth M w -> Reads w (fun b o => M b o \/ Oth b o) xs vs -> Reads w (fun b o => (M b o \/ Oth b o) /\ g.obj b = none) ys vs)
    (h : ACalls P f ys Store.empty fun r _ => Q r) (hf : ∀ r, Q r -> flat r) (hR : ∀ r, Q r -> R r g) : ACalls P f xs g R := by
  refine ⟨fun Oth M w vs sto hr => ?_⟩
  let O1 : Nat -> Nat -> Prop := fun b o => (M b o \/ Oth b o) /\ g.obj b = none
  have sto0 : StoreOK Store.empty O1 (fun _ _ => False) w :=
    { obj := fun b x hx => (by cases hx), tok := fun b x hx => (by cases hx), mlt := fun _ _ h => h.elim, olt := fun b o h => Or.elim h.1 (sto.mlt b o) (sto.olt b o), dis := fun _ _ _ h => h }
  have h1 := h.out O1 (fun _ _ => False) w vs sto0 (by
    have e : (fun (b o : Nat) => False \/ O1 b o) = O1 := by funext b o; simp
    rw [e]; exact hb Oth M w vs.toList sto hr)
  have key : ∀ v w', zl Store.empty (fun r _ => Q r) O1 (fun _ _ => False) w v w' -> zl g R Oth M w v w' := by
    rintro v w' ⟨r, a', M2, hQ, hv, hsto, hchg⟩
    have hg : Grow w w' := ⟨hchg.size, fun b hb => hchg.blk b hb fun _ h => h, hchg.tape, hchg.os, hchg.output⟩
    exact ⟨r, g, M, hR r hQ, hf r hQ _ _ _ _ _ hv, sto.grow hg, hg.chg M⟩
  generalize (callFunc f vs).run P w = res at h1
  cases res with
  | ok n w' =>
    cases n with
    | enter f' args => exact Calls.mono h1 fun e w'' ⟨v, he, hv⟩ => ⟨v, he, key _ _ hv⟩
    | value v => exact key _ _ h1
    | _ => exact h1
  | _ => exact h1
/-- A slice over an object reads as a list for the time that the object rests. -/
theorem zcc {w : World} {T : Nat -> Nat -> Prop} {b n cap k : Nat} {rows : List (List AV)} {pad : List AV} (ho : CellsRel w T (rows.flatten ++ pad) b) {T' : Nat -> Nat -> Prop} (hT : ∀ o, ¬ T' b o) (hn : rows.length = n) (hcap : n <= cap)
    (hk : ∀ row ∈ rows, row.length = k) (hall : ∀ row ∈ rows, ∀ x ∈ row, ∃ v, x = AV.s v /\ zv v = true) : VRel w T' (.lst k rows none) (.slice (some ⟨b, 0, none⟩) n cap) := by
  obtain ⟨cs, e0, fr, hb0, huf, hlen, hrel⟩ := ho
  subst hn
  have at1 : ∀ (i : Nat) (row : List AV) (j : Nat) (x : AV), rows[i]? = some row -> row[j]? = some x -> ∃ v, x = .s v /\ zv v = true /\ cs[i * k + j]? = some v := by
    intro i row j x hi hj
    obtain ⟨v, rfl, hv⟩ := hall row (List.mem_of_getElem? hi) x (List.mem_of_getElem? hj)
    have h5 := y9 hk hi hj
    have hlt := (List.getElem?_eq_some_iff.1 h5).1
    have h6 : (rows.flatten ++ pad)[i * k + j]? = some (.s v) := by rw [List.getElem?_append_left hlt]; exact h5
    have hlt2 : i * k + j < cs.size := by rw [<- hlen, List.length_append]; omega
    have h7 := hrel _ _ cs[i * k + j] h6 (by simp [hlt2])
    have : cs[i * k + j] = v := by generalize cs[i * k + j] = y at h7; cases h7; rfl
    exact ⟨v, rfl, hv, by rw [<- this]; simp [hlt2]⟩
  refine VRel.lst rows none b 0 cap k (fun p => cs.getD p undef) hcap (fun i row hi => hk row (List.mem_of_getElem? hi)) (fun _ h => by cases h) (fun i row j x hi hj => ?_) (fun i row j x hi hj => ?_) (fun i row j x hi hj => ?_)
  · obtain ⟨v, rfl, hv, h5⟩ := at1 i row j x hi hj
    refine ⟨?_, hT _⟩
    rw [Nat.zero_add]
    simp only [World.cell?, hb0]
    rw [Array.getD_eq_getD_getElem?, h5]
    simp [h5]
  · obtain ⟨v, rfl, hv, h5⟩ := at1 i row j x hi hj
    rw [Array.getD_eq_getD_getElem?, h5]; exact hv
  · obtain ⟨v, rfl, hv, h5⟩ := at1 i row j x hi hj
    rw [Array.getD_eq_getD_getElem?, h5]; exact .s _
/-- One store says less than another one. -/
def AObj.le (x y : AObj) : Prop := ∀ w T b, ObjRel w T x b -> ObjRel w T y b
structure Store.Le (st st' : Store) : Prop where
  obj : ∀ b y, st'.obj b = some y -> ∃ x, st.obj b = some x /\ AObj.le x y
  tok : ∀ b x, st'.tok b = some x -> st.tok b = some x
theorem AObj.le_refl (x : AObj) : AObj.le x x := fun _ _ _ h => h
theorem Store.Le.refl (st : Store) : st.Le st := ⟨fun b y h => ⟨y, h, AObj.le_refl y⟩, fun _ _ h => h⟩
theorem Store.Has.toLe {st st' : Store} (h : st.Has st') : st.Le st' := ⟨fun b y hy => ⟨y, h.obj b y hy, AObj.le_refl y⟩, h.tok⟩
theorem Store.Le.trans {a b c : Store} (h : a.Le b) (h' : b.Le c) : a.Le c :=
  ⟨fun i z hz => by
    obtain ⟨y, hy, h2⟩ := h'.obj i z hz
    obtain ⟨x, hx, h3⟩ := h.obj i y hy
    exact ⟨x, hx, fun w T b k => h2 w T b (h3 w T b k)⟩, fun i x hx => h.tok i x (h'.tok i x hx)⟩
theorem StoreOK.weakenLe {st st' : Store} {Oth M : Nat -> Nat -> Prop} {w : World} (h : StoreOK st Oth M w) (hh : st.Le st') : StoreOK st' Oth M w :=
  ⟨fun b y k => by
    obtain ⟨x, hx, hle⟩ := hh.obj b y k
    exact ⟨hle _ _ _ (h.obj b x hx).1, (h.obj b x hx).2⟩, fun b x k => h.tok b x (hh.tok b x k), h.mlt, h.olt, h.dis⟩
/-- A contract that says less. -/
theorem ACalls.post {f : FuncId} {xs : List AV} {st st0 : Store} {R R' : AV -> Store -> Prop} (h : ACalls P f xs st0 R) (h0 : st.Le st0) (hR : ∀ r st', R r st' -> ∃ r' st'', AV.le r r' /\ st'.Le st'' /\ R' r' st'') : ACalls P f xs st R' := by
  refine ⟨fun Oth M w vs sto hr => ?_⟩
  have h1 := h.out Oth M w vs (sto.weakenLe h0) hr
  have key : ∀ v w', zl st0 R Oth M w v w' -> zl st R' Oth M w v w' := by
    rintro v w' ⟨r, a', M2, hQ, hv, hsto, hchg⟩
    obtain ⟨r', st'', h2, h3, h4⟩ := hR r a' hQ
    exact ⟨r', st'', M2, h4, h2 _ _ _ hv, hsto.weakenLe h3, hchg⟩
  generalize (callFunc f vs).run P w = res at h1
  cases res with
  | ok n w' =>
    cases n with
    | enter f' args => exact Calls.mono h1 fun e w'' ⟨v, he, hv⟩ => ⟨v, he, key _ _ hv⟩
    | value v => exact key _ _ h1
    | _ => exact h1
  | _ => exact h1
theorem ACalls.imp {f : FuncId} {xs : List AV} {st : Store} {R R' : AV -> Store -> Prop} (h : ACalls P f xs st R) (hR : ∀ r st', R r st' -> R' r st') : ACalls P f xs st R' :=
  h.post (Store.Le.refl st) fun r st' hr => ⟨r, st', AV.le_refl r, Store.Le.refl st', hR r st' hr⟩
/-- A contract off a walk in words of worlds. -/
theorem ACalls.of_calls {f : FuncId} {fn : Func} {code : Code} {xs : List AV} {st : Store} {R : AV -> Store -> Prop} (hf : P.funcs[f]? = some fn) (hb : fn.body = some code) (hname : (fn.name == "runtime.NumGoroutine") = false)
    (h : ∀ (Oth M : Nat -> Nat -> Prop) (w : World) (vs : Array Value), StoreOK st Oth M w -> Reads w (fun b o => M b o \/ Oth b o) xs vs.toList -> Calls P f vs w fun e w' => ∃ v, e = .returned v /\ zl st R Oth M w v w') : ACalls P f xs st R := by
  refine ⟨fun Oth M w vs sto hr => ?_⟩
  have hrun : (callFunc f vs).run P w = .ok (.enter f vs) w := by
    have hne : ¬ fn.name = "runtime.NumGoroutine" := by simpa using hname
    simp [callFunc, run_program, hf, hne, hb]
  rw [hrun]
  exact h Oth M w vs sto hr
/-- A contract off what a function without a text is said to do. -/
theorem ACalls.of_value {f : FuncId} {xs : List AV} {st : Store} {R : AV -> Store -> Prop}
    (h : ∀ (Oth M : Nat -> Nat -> Prop) (w : World) (vs : Array Value), StoreOK st Oth M w -> Reads w (fun b o => M b o \/ Oth b o) xs vs.toList -> ∃ v w', (callFunc f vs).run P w = .ok (.value v) w' /\ zl st R Oth M w v w') : ACalls P f xs st R := by
  refine ⟨fun Oth M w vs sto hr => ?_⟩
  obtain ⟨v, w', h1, h2⟩ := h Oth M w vs sto hr
  rw [h1]
  exact h2
end
/-- Once for all ways; the way to the place may be cut. -/
theorem AWp.meetA {P : Program} {c : Cfg} {σ : Type} (H : Meet σ) {x y : Code} {Q : Exit -> Fr -> Store -> Prop} {A : Fr} {st : Store} (hx : AWp P c x (zns H.at Q) A st)
    (hy : ∀ s st', H.inv s st' -> AWp P c y Q (mkFr (H.t s) (H.bx s)) st') : AWp P c (.seq x y) Q A st := by
  refine AWp.seq (hx.mono fun e A' st' h => ?_)
  cases e with
  | normal =>
    obtain ⟨s, h1, h2, h3⟩ := h
    exact AWp.weaken (hy s st' h1) h2 h3 (Store.Has.refl st')
  | _ => exact h
/-- A test whose ways are not yet walked. -/
theorem AWp.cond {P : Program} {c : Cfg} {x : Operand} {p q : Code} {Q : Exit -> Fr -> Store -> Prop} {A : Fr} {st : Store} (t : Bool) (ht : A.ev x = .av (.s (.bool t))) (h : v7 t (AWp P c p Q A st) (AWp P c q Q A st)) : AWp P c (.cond x p q) Q A st := by
  refine ⟨fun Oth M a w sim => ?_⟩
  have hv : a.eval x = .bool t := by
    obtain ⟨β, s⟩ := sim
    exact VRel.eq_s (zy s.env ht)
  refine wpIn_cond hv ?_
  cases t with
  | true => exact (AWp.out (show AWp P c p Q A st from h)) Oth M a w sim
  | false => exact (AWp.out (show AWp P c q Q A st from h)) Oth M a w sim
end Go.V
namespace Go.V
section
variable {P : Program} {c : Cfg} {I : Info} {w : World} {T : Nat -> Nat -> Prop}
def zjj : Ty -> Bool
  | .int _ => true
  | _ => false
/-- A value that may be asked for in a map. -/
def zjf (I : Info) (kt : TypeId) (k : AV) : Bool :=
  match I kt with
  | none => false
  | some i => match i.ty, k with
    | .int _, _ => true
    | .bool, _ => true
    | .struct fs, .agg cs => fs.all fun f => match I f.2 with | some j => zjj j.ty && (je j (cs.drop f.1)).isSome | none => false
    | _, _ => false
theorem wo {kt : TypeId} {k : IntKind} (h : P.underlying kt = some (.int k)) (v : Value) (e : Bool) (n : Nat) : (Instr.checkKey e (n + 1) kt v).run P w = .ok () w := by
  unfold Instr.checkKey
  simp only [Sem.run_bind, zh h, Result.andThen_ok]
  cases v <;> simp
theorem zc5 {kt : TypeId} (h : P.underlying kt = some .bool) (v : Value) (e : Bool) (n : Nat) : (Instr.checkKey e (n + 1) kt v).run P w = .ok () w := by
  unfold Instr.checkKey
  simp only [Sem.run_bind, zh h, Result.andThen_ok]
  cases v <;> simp
theorem xq (hI : zp P I) {kt : TypeId} {k : AV} {kv : Value} (h : zjf I kt k = true) (hv : VRel w T k kv) (e : Bool) : (Instr.checkKey e 10000 kt kv).run P w = .ok () w := by
  unfold zjf at h
  cases hi : I kt with
  | none => rw [hi] at h; cases h
  | some i =>
    rw [hi] at h
    have ht := hI kt i hi
    simp only at h
    split at h
    · rename_i k' hy; exact wo (zal ht hy) kv e 9999
    · rename_i hy; exact zc5 (zij ht hy) kv e 9999
    · rename_i fs cs hy
      obtain ⟨cv, rfl, hr⟩ := qw hv
      obtain ⟨a, ha1, ha2⟩ := jj ht hy
      rw [show (10000 : Nat) = 9999 + 1 from rfl, Instr.checkKey]
      simp only [Sem.run_bind, zh ha1, Result.andThen_ok]
      rw [<- Array.forIn_toList]
      subst ha2
      clear ha1 hy
      generalize a.toList = L at h
      induction L with
      | nil => simp
      | cons f L ih =>
        simp only [List.map_cons, List.all_cons, Bool.and_eq_true] at h
        obtain ⟨h1, h2⟩ := h
        cases hj : I f.type with
        | none => simp [hj] at h1
        | some j =>
          simp only [hj, Bool.and_eq_true] at h1
          obtain ⟨h3, h4⟩ := h1
          obtain ⟨x, hx⟩ := Option.isSome_iff_exists.1 h4
          obtain ⟨v, r1, r2⟩ := xx (hI _ _ hj) hr hx
          have hk : ∃ k, j.ty = .int k := by
            unfold zjj at h3
            split at h3
            · rename_i k hk; exact ⟨k, hk⟩
            · cases h3
          obtain ⟨k, hk⟩ := hk
          have r3 := wo (w := w) (zal (hI _ _ hj) hk) v e 9998
          by_cases hn : f.name = "_"
          · simp only [List.forIn_cons, Sem.run_bind, hn, ne_eq, not_true_eq_false, if_false, Result.andThen_ok, Sem.run_pure]
            exact ih h2
          · simp only [List.forIn_cons, Sem.run_bind, hn, ne_eq, not_false_eq_true, if_true, Result.andThen_ok, r1, r3, Sem.run_pure]
            exact ih h2
    · cases h
theorem zn4 {kt : TypeId} {d : TypeDesc} (hd : P.underlying kt = some d) {a b : Value} {r : Bool} (h : Instr.sameNow d a b = some r) (D : Nat) : (Op.equalIn (D + 1) kt a b).run P w = .ok r w := by
  unfold Instr.sameNow at h
  split at h
  · split at h
    · rename_i hk
      cases h
      subst hk
      simp [Op.equalIn, zh hd]
    · cases h
  · cases h
    simp [Op.equalIn, zh hd]
  · cases h
    simp [Op.equalIn, zh hd]
  · cases h
/-- The first entry with the key. -/
theorem x8 (hI : zp P I) {kt : TypeId} {k : AV} {kv : Value} (hv : VRel w T k kv) (q : AV × AV -> Bool) {es : List (AV × AV)} {ms : List MapEntry} (hl : es.length = ms.length)
    (hr : ∀ (i : Nat) (x : AV × AV) (y : MapEntry), es[i]? = some x -> ms[i]? = some y -> VRel w T x.1 y.key) (hq : ∀ e ∈ es, eqAV I 5 kt k e.1 = some (q e)) (hkt : (I kt).isSome) :
    ∃ r, (Instr.findKey kt kv ms).run P w = .ok r w /\ ((r = none /\ es.findIdx? q = none) \/ ∃ i e m, r = some (i, m.val) /\ es.findIdx? q = some i /\ es[i]? = some e /\ ms[i]? = some m /\ q e = true) := by
  have eqrun : ∀ (i : Nat) (e : AV × AV) (m : MapEntry), es[i]? = some e -> ms[i]? = some m -> (Op.equal kt kv m.key).run P w = .ok (q e) w := fun i e m he hm =>
    zb5 hI 5 kt k e.1 (q e) (hq e (List.mem_of_getElem? he)) 10000 (by omega) kv m.key hv (hr i e m he hm)
  obtain ⟨ik, hik⟩ := Option.isSome_iff_exists.1 hkt
  obtain ⟨d, hd, _⟩ := (hI kt ik hik).und
  have same : ∀ (i : Nat) (e : AV × AV) (m : MapEntry) (b : Bool), es[i]? = some e -> ms[i]? = some m -> Instr.sameNow d kv m.key = some b -> b = q e := by
    intro i e m b he hm hs
    have h1 := eqrun i e m he hm
    have h2 : (Op.equal kt kv m.key).run P w = .ok b w := zn4 hd hs 9999
    rw [h1] at h2
    cases h2; rfl
  have res : ∀ (es : List (AV × AV)) (ms : List MapEntry) (i0 : Nat), es.length = ms.length ->
      (∀ (i : Nat) (e : AV × AV) (m : MapEntry), es[i]? = some e -> ms[i]? = some m -> (Op.equal kt kv m.key).run P w = .ok (q e) w /\ ∀ b, Instr.sameNow d kv m.key = some b -> b = q e) ->
      ∃ r, ((r = none /\ es.findIdx? q = none) \/ ∃ i e m, r = some (i0 + i, m.val) /\ es.findIdx? q = some i /\ es[i]? = some e /\ ms[i]? = some m /\ q e = true) /\ (Instr.findAsking kt kv ms i0).run P w = .ok r w ∧
        ∀ r', Instr.findNow d kv ms i0 = some r' -> r' = r := by
    intro es
    induction es with
    | nil =>
      intro ms i0 hl _
      cases ms with
      | cons m ms => simp at hl
      | nil => exact ⟨none, .inl ⟨rfl, by simp⟩, by simp [Instr.findAsking], fun r' h => by simp [Instr.findNow] at h; exact h.symm⟩
    | cons e es ih =>
      intro ms i0 hl hall
      cases ms with
      | nil => simp at hl
      | cons m ms =>
        obtain ⟨h1, h2⟩ := hall 0 e m rfl rfl
        cases hqe : q e with
        | true =>
          rw [hqe] at h1 h2
          refine ⟨some (i0, m.val), .inr ⟨0, e, m, rfl, by simp [List.findIdx?_cons, hqe], rfl, rfl, hqe⟩, ?_, fun r' h => ?_⟩
          · rw [Instr.findAsking]
            simp [h1]
          · unfold Instr.findNow at h
            cases hs : Instr.sameNow d kv m.key with
            | none => rw [hs] at h; cases h
            | some b =>
              obtain rfl := h2 b hs
              rw [hs] at h
              simp at h
              exact h.symm
        | false =>
          rw [hqe] at h1 h2
          obtain ⟨r, h3, h4, h5⟩ := ih ms (i0 + 1) (by simpa using hl) fun i e' m' he hm => hall (i + 1) e' m' he hm
          refine ⟨r, ?_, ?_, fun r' h => ?_⟩
          · rcases h3 with ⟨h6, h7⟩ | ⟨i, e', m', h6, h7, h8, h9, h10⟩
            · exact .inl ⟨h6, by simp [List.findIdx?_cons, hqe, h7]⟩
            · exact .inr ⟨i + 1, e', m', by rw [h6]; simp; omega, by simp [List.findIdx?_cons, hqe, h7], h8, h9, h10⟩
          · rw [Instr.findAsking]
            simp [h1, h4]
          · unfold Instr.findNow at h
            cases hs : Instr.sameNow d kv m.key with
            | none => rw [hs] at h; cases h
            | some b =>
              obtain rfl := h2 b hs
              rw [hs] at h
              exact h5 r' h
  obtain ⟨r, h1, h2, h3⟩ := res es ms 0 hl fun i e m he hm => ⟨eqrun i e m he hm, fun b => same i e m b he hm⟩
  refine ⟨r, ?_, ?_⟩
  · unfold Instr.findKey
    simp only [Sem.run_bind, zh hd, Result.andThen_ok]
    cases hf : Instr.findNow d kv ms 0 with
    | none => exact h2
    | some r' => rw [h3 r' hf]; rfl
  · rcases h1 with h1 | ⟨i, e, m, h4, h5⟩
    · exact .inl h1
    · exact .inr ⟨i, e, m, by rw [h4]; simp, h5⟩
/-- What a type's variables hold at first. -/
def jh (i : TI) : AV := bif qn i.ty then .agg (i.zero.map AV.s) else match i.zero with | v :: _ => .s v | [] => .any
theorem zgn {t : TypeId} {i : TI} (h : TIok P t i) (w : World) (T : Nat -> Nat -> Prop) : ∃ z, (zeroValue t).run P w = .ok z w /\ VRel w T (jh i) z := by
  obtain ⟨inf, h1, _, _, z, h2, h3⟩ := h.info
  refine ⟨z, by simp [zeroValue, typeInfo, h1, h2], ?_⟩
  unfold jh
  rcases h.zag inf z h1 h2 with ⟨h4, cs, rfl⟩ | ⟨h4, h5⟩
  · rw [h4]
    refine xe ?_
    have : i.zero = cs.toList := h3.symm
    rw [this]
    exact Reads.map_s _
  · rw [h4, h5]
    exact .s _
end
end Go.V
namespace Go.V
section
variable {P : Program} {c : Cfg} {w : World} {st : Store} {Oth M : Nat -> Nat -> Prop}
theorem vt {b : Nat} {old : Obj} (new : Obj) (hb : w.heap[b]? = some old) : (w.heap.setIfInBounds b new)[b]? = some new := by
  have hlt : b < w.heap.size := (Array.getElem?_eq_some_iff.1 hb).1
  simp [hlt]
theorem xy {b b' : Nat} (new : Obj) (h : b' ≠ b) : (w.heap.setIfInBounds b new)[b']? = w.heap[b']? := by
  simp [Ne.symm h]
theorem yh {r : Nat} {es : Array MapEntry} {clock : Nat} (hb : w.heap[r]? = some (.map es clock)) : (getObj r).run P w = .ok (.map es clock) w := by
  simp [getObj, Sem.run, hb]
theorem j8 {r : Nat} {es : Array MapEntry} {clock : Nat} (o : Obj) (hb : w.heap[r]? = some (.map es clock)) : (setObj r o).run P w = .ok () { w with heap := w.heap.setIfInBounds r o } := by
  simp [setObj, Sem.run, hb]
def bare : Obj -> Prop
  | .cells .. => False
  | _ => True
theorem zen {b : Nat} {old new : Obj} (hb : w.heap[b]? = some old) (ho : bare old) (hn : bare new) (a : Addr) : World.cell? { w with heap := w.heap.setIfInBounds b new } a = w.cell? a := by
  simp only [World.cell?]
  by_cases h : a.block = b
  · rw [h, vt new hb, hb]
    cases old <;> cases new <;> simp_all [bare]
  · rw [xy new h]
theorem qm {b : Nat} {old new : Obj} (hb : w.heap[b]? = some old) (ho : bare old) (hn : bare new) (T : Nat -> Nat -> Prop) : Keeps w T { w with heap := w.heap.setIfInBounds b new } T where
  cell b' o c hc _ := by rw [zen hb ho hn]; exact hc
  out _ _ _ _ h := h
  shp b' c e fr h := by
    by_cases hbb : b' = b
    · subst hbb; rw [hb] at h; cases h; exact ho.elim
    · exact ⟨c, fr, by rw [<- h]; exact xy new hbb, rfl⟩
/-- An object that is no row of cells is turned. -/
theorem zan (sto : StoreOK st Oth M w) {b : Nat} {old new : Obj} {x y : AObj} (hx : st.obj b = some x) (hb : w.heap[b]? = some old) (ho : bare old) (hn : bare new)
    (hy : ObjRel { w with heap := w.heap.setIfInBounds b new } (fun b o => M b o \/ Oth b o) y b) :
    StoreOK (st.setObj b y) Oth M { w with heap := w.heap.setIfInBounds b new } /\ Chg M w M { w with heap := w.heap.setIfInBounds b new } := by
  have hk := qm hb ho hn (fun b o => M b o \/ Oth b o)
  have hM := (sto.obj b x hx).2
  refine ⟨{ obj := fun b' z hz => ?_, tok := fun b' top ht => ?_, mlt := fun b' o hm => ?_, olt := fun b' o hm => ?_, dis := sto.dis }, ?_⟩
  · by_cases hbb : b' = b
    · subst hbb
      rw [zb] at hz
      cases hz
      exact ⟨hy, hM⟩
    · rw [zc hbb] at hz
      exact ⟨ObjRel.same (sto.obj b' z hz).1 hk (xy new hbb), (sto.obj b' z hz).2⟩
  · obtain ⟨c, e, fr, h1, h2⟩ := sto.tok b' top ht
    have hbb : b' ≠ b := fun e => by rw [e, hb] at h1; cases h1; exact ho.elim
    exact ⟨c, e, fr, by rw [<- h1]; exact xy new hbb, h2⟩
  · have := sto.mlt b' o hm; simpa using this
  · have := sto.olt b' o hm; simpa using this
  · exact { size := by simp
            keep := fun b' o hb' _ => zen hb ho hn _
            blk := fun b' hb' hm => by
              have hbb : b' ≠ b := fun e => hm 0 (e ▸ hM 0)
              exact xy new hbb
            shp := fun b' c e fr h => (qm hb ho hn (fun _ _ => False)).shp b' c e fr h
            sub := fun _ _ h _ => h
            tape := rfl, os := rfl, output := rfl }
theorem za4 {α : Type} {q : α -> Bool} : ∀ {l : List α} {i : Nat} {e : α}, l.findIdx? q = some i -> l[i]? = some e -> l.find? q = some e := by
  intro l
  induction l with
  | nil => intro i e h; simp at h
  | cons a l ih =>
    intro i e h he
    rw [List.findIdx?_cons] at h
    cases hq : q a with
    | true => rw [hq] at h; simp at h; subst h; simp at he; subst he; simp [List.find?_cons, hq]
    | false =>
      rw [hq] at h
      simp only [Bool.false_eq_true, if_false, Option.map_eq_some_iff] at h
      obtain ⟨j, hj, rfl⟩ := h
      rw [List.find?_cons, hq]
      exact ih hj (by simpa using he)
theorem wk {α : Type} {q : α -> Bool} {l : List α} (h : l.findIdx? q = none) : l.find? q = none := by
  rw [List.findIdx?_eq_none_iff] at h
  rw [List.find?_eq_none]
  intro x hx
  simp [h x hx]
/-- What a look-up tells. -/
def vd (ok : Bool) (z : AV) (r : Option (AV × AV)) : AV :=
  match ok, r with
  | true, some e => .tup [e.2, .s (.bool true)]
  | true, none => .tup [z, .s (.bool false)]
  | false, some e => e.2
  | false, none => z
theorem zdh {T : Nat -> Nat -> Prop} {x : AV} {v : Value} (b : Bool) (h : VRel w T x v) : VRel w T (.tup [x, .s (.bool b)]) (.tuple #[v, .bool b]) :=
  zz (Reads.cons h (Reads.cons (.s _) Reads.nil))
theorem zga {T : Nat -> Nat -> Prop} {x y : AV} {vs : List Value} (h : Reads w T [x, y] vs) : ∃ u v, vs = [u, v] /\ VRel w T x u /\ VRel w T y v := by
  obtain ⟨h1, h2⟩ := h
  match vs, h1 with
  | [u, v], _ => exact ⟨u, v, rfl, h2 0 x u rfl rfl, h2 1 y v rfl rfl⟩
theorem zo4 {T : Nat -> Nat -> Prop} {x y z : AV} {vs : List Value} (h : Reads w T [x, y, z] vs) : ∃ u v t, vs = [u, v, t] /\ VRel w T x u /\ VRel w T y v /\ VRel w T z t := by
  obtain ⟨h1, h2⟩ := h
  match vs, h1 with
  | [u, v, t], _ => exact ⟨u, v, t, rfl, h2 0 x u rfl rfl, h2 1 y v rfl rfl, h2 2 z t rfl rfl⟩
theorem zgb {T : Nat -> Nat -> Prop} {x : AV} {vs : List Value} (h : Reads w T [x] vs) : ∃ u, vs = [u] /\ VRel w T x u := by
  obtain ⟨h1, h2⟩ := h
  match vs, h1 with
  | [u], _ => exact ⟨u, rfl, h2 0 x u rfl rfl⟩
theorem ye {o : Oper} {t kt e : TypeId} {x ix : Operand} {ok : Bool} (ho : o.op = .lookup t x ix ok) {it ie ik : TI} (hit : c.I t = some it) (hty : it.ty = .map kt e) (hie : c.I e = some ie) (hik : c.I kt = some ik)
    {m clk : Nat} {es : List (AV × AV)} {bs : List Nat} {k : AV} (hm : st.obj m = some (.map es bs clk)) (hk : zjf c.I kt k = true) (q : AV × AV -> Bool) (hq : ∀ e ∈ es, eqAV c.I 5 kt k e.1 = some (q e))
    {R : AV -> Store -> Prop} (h : R (vd ok (jh ie) (es.find? q)) st) : AEff P c o [.s (.map (some m)), k] st R := by
  refine ⟨fun Oth M w ρ hI sto hr => ?_⟩
  rw [ho] at hr
  have hr : Reads w (fun b o => M b o \/ Oth b o) [.s (.map (some m)), k] [ρ x, ρ ix] := by simpa [Op.operands] using hr
  obtain ⟨u, v, he, h1, h2⟩ := zga hr
  simp only [List.cons.injEq, and_true] at he
  obtain ⟨hu, hv⟩ := he
  rw [<- hu] at h1
  rw [<- hv] at h2
  have h1 := VRel.eq_s h1
  obtain ⟨⟨ms, g1, g2, g3, g4⟩, hM⟩ := sto.obj m _ hm
  obtain ⟨r, r1, r2⟩ := x8 (kt := kt) (k := k) (kv := ρ ix) hI h2 q (es := es) (ms := ms.toList) (by simpa using g2) (fun i x y hx hy => (g3 i x y hx (by simpa using hy)).1) hq (by rw [hik]; rfl)
  obtain ⟨z, z1, z2⟩ := zgn (hI _ _ hie) w (fun b o => M b o \/ Oth b o)
  have hck := xq hI hk h2 ms.isEmpty
  have hu := zh (P := P) (zbu (hI _ _ hit) hty)
  have done : ∀ val : Value, VRel w (fun b o => M b o \/ Oth b o) (vd ok (jh ie) (es.find? q)) val -> (execOp ρ o).run P w = .ok (.value val) w ->
      match (execOp ρ o).run P w with
      | .ok (.value v) w' => zl st R Oth M w v w'
      | .ok .skip w' => o.dst = none /\ zl st R Oth M w (.tuple #[]) w'
      | _ => False := by
    intro val hval hrun
    rw [hrun]
    exact ⟨_, st, M, h, hval, sto, Chg.refl _ _⟩
  rcases r2 with ⟨rfl, r3⟩ | ⟨i, en, me, rfl, r3, r4, r5, r6⟩
  · rw [wk r3] at done
    cases ok with
    | true => exact done _ (zdh false z2) (by simp [execOp, ho, Instr.lookup, hu, h1, yh g1, hck, r1, z1])
    | false => exact done _ z2 (by simp [execOp, ho, Instr.lookup, hu, h1, yh g1, hck, r1, z1])
  · have hval := (g3 i en me r4 (by simpa using r5)).2
    rw [za4 r3 r4] at done
    cases ok with
    | true => exact done _ (zdh true hval) (by simp [execOp, ho, Instr.lookup, hu, h1, yh g1, hck, r1])
    | false => exact done _ hval (by simp [execOp, ho, Instr.lookup, hu, h1, yh g1, hck, r1])
/-- A key whose value is told. -/
def zje : AV -> Bool
  | .s (.int _ _) => true
  | .s (.bool _) => true
  | .agg cs => cs.all fun | .s (.int _ _) => true | _ => false
  | _ => false
theorem wd {T T' : Nat -> Nat -> Prop} {w' : World} {k : AV} {u v : Value} (hk : zje k = true) (hu : VRel w T k u) (hv : VRel w' T' k v) : u = v /\ ∀ n, Instr.sameBits (n + 1) u u = true := by
  unfold zje at hk
  split at hk
  · rw [VRel.eq_s hu, VRel.eq_s hv]; exact ⟨rfl, fun n => by simp [Instr.sameBits]⟩
  · rw [VRel.eq_s hu, VRel.eq_s hv]; exact ⟨rfl, fun n => by simp [Instr.sameBits]⟩
  · rename_i cs
    obtain ⟨c1, rfl, h1⟩ := qw hu
    obtain ⟨c2, rfl, h2⟩ := qw hv
    have hint : ∀ (i : Nat) (y : AV), cs[i]? = some y -> ∃ k n, y = .s (.int k n) := by
      intro i y hy
      have := List.all_eq_true.1 hk y (List.mem_of_getElem? hy)
      split at this
      · exact ⟨_, _, rfl⟩
      · cases this
    have heq : c1 = c2 := by
      apply Array.ext_getElem?
      intro i
      have e1 := h1.1
      have e2 := h2.1
      simp only [Array.length_toList] at e1 e2
      by_cases hi : i < cs.length
      · obtain ⟨k, n, hy⟩ := hint i cs[i] (List.getElem?_eq_getElem hi)
        have h3 := h1.2 i cs[i] c1[i] (List.getElem?_eq_getElem hi) (by simp)
        have h4 := h2.2 i cs[i] c2[i] (List.getElem?_eq_getElem hi) (by simp)
        rw [hy] at h3 h4
        rw [Array.getElem?_eq_getElem (by omega), Array.getElem?_eq_getElem (by omega), VRel.eq_s h3, VRel.eq_s h4]
      · rw [Array.getElem?_eq_none (by omega), Array.getElem?_eq_none (by omega)]
    refine ⟨by rw [heq], fun n => ?_⟩
    have hall : ∀ y ∈ c1.toList, ∃ k n, y = .int k n := by
      intro y hy
      obtain ⟨i, hi, rfl⟩ := List.getElem_of_mem hy
      have hi' : i < cs.length := by rw [h1.1]; exact hi
      obtain ⟨k, n, hx⟩ := hint i cs[i] (List.getElem?_eq_getElem hi')
      have h3 := h1.2 i cs[i] _ (List.getElem?_eq_getElem hi') (List.getElem?_eq_getElem hi)
      rw [hx] at h3
      exact ⟨k, n, VRel.eq_s h3⟩
    rw [Instr.sameBits]
    simp only [beq_self_eq_true, Bool.true_and]
    generalize c1.toList = L at hall
    clear heq h1 h2 hu hv
    induction L with
    | nil => simp
    | cons a L ih =>
      obtain ⟨k, m, rfl⟩ := hall a (by simp)
      simp only [List.zip_cons_cons, List.all_cons, Bool.and_eq_true]
      refine ⟨?_, ih fun y hy => hall y (by simp [hy])⟩
      cases n <;> simp [Instr.sameBits]
  · cases hk
/-- The entries with one turned, or one more. -/
def qp (es : List (AV × AV)) (bs : List Nat) (clk : Nat) (q : AV × AV -> Bool) (k v : AV) : AObj :=
  match es.findIdx? q with
  | some i => .map (es.set i (k, v)) bs clk
  | none => .map (es ++ [(k, v)]) (bs ++ [clk]) (clk + 1)
theorem qa {o : Oper} {t kt e : TypeId} {x ix y : Operand} (ho : o.op = .mapUpdate t x ix y \/ o.op = .insert t x ix y) (hd : o.dst = none) {it ik : TI} (hit : c.I t = some it) (hty : it.ty = .map kt e) (hik : c.I kt = some ik)
    {m clk : Nat} {es : List (AV × AV)} {bs : List Nat} {k v : AV} (hm : st.obj m = some (.map es bs clk)) (hk : zjf c.I kt k = true) (hdet : zje k = true) (q : AV × AV -> Bool) (hq : ∀ e ∈ es, eqAV c.I 5 kt k e.1 = some (q e))
    (hsame : ∀ e ∈ es, q e = true -> e.1 = k) {R : AV -> Store -> Prop} (h : R (.tup []) (st.setObj m (qp es bs clk q k v))) : AEff P c o [.s (.map (some m)), k, v] st R := by
  refine ⟨fun Oth M w ρ hI sto hr => ?_⟩
  have hops : o.op.operands = #[x, ix, y] := by rcases ho with ho | ho <;> rw [ho] <;> rfl
  rw [hops] at hr
  have hr : Reads w (fun b o => M b o \/ Oth b o) [.s (.map (some m)), k, v] [ρ x, ρ ix, ρ y] := by simpa using hr
  obtain ⟨u, v', t', he, h1, h2, h3⟩ := zo4 hr
  simp only [List.cons.injEq, and_true] at he
  obtain ⟨hu, hv, ht'⟩ := he
  rw [<- hu] at h1
  rw [<- hv] at h2
  rw [<- ht'] at h3
  have h1 := VRel.eq_s h1
  obtain ⟨⟨ms, g1, g2, g3, g4, g5, g6⟩, hM⟩ := sto.obj m _ hm
  obtain ⟨r, r1, r2⟩ := x8 (kt := kt) (k := k) (kv := ρ ix) hI h2 q (es := es) (ms := ms.toList) (by simpa using g2) (fun i x y hx hy => (g3 i x y hx (by simpa using hy)).1) hq (by rw [hik]; rfl)
  have hck := xq hI hk h2 false
  have hund := zh (P := P) (zbu (hI _ _ hit) hty)
  have done : ∀ w', (execOp ρ o).run P w = .ok .skip w' -> (StoreOK (st.setObj m (qp es bs clk q k v)) Oth M w' /\ Chg M w M w') ->
      match (execOp ρ o).run P w with
      | .ok (.value v) w' => zl st R Oth M w v w'
      | .ok .skip w' => o.dst = none /\ zl st R Oth M w (.tuple #[]) w'
      | _ => False := by
    intro w' hrun hok
    rw [hrun]
    exact ⟨hd, _, _, M, h, zz Reads.nil, hok.1, hok.2⟩
  have hexec : (execOp ρ o).run P w = ((Instr.mapUpdate t (ρ x) (ρ ix) (ρ y)).run P w).andThen fun _ w' => .ok .skip w' := by
    rcases ho with ho | ho <;> simp [execOp, ho]
  rcases r2 with ⟨rfl, r3⟩ | ⟨i, en, me, rfl, r3, r4, r5, r6⟩
  · refine done { w with heap := w.heap.setIfInBounds m (.map (ms.push { key := ρ ix, val := ρ y, born := clk }) (clk + 1)) } ?_ ?_
    · rw [hexec]
      simp [Instr.mapUpdate, hund, h1, yh g1, hck, r1, j8 _ g1]
    · refine zan sto hm g1 trivial trivial ?_
      unfold qp
      rw [r3]
      have hkp := qm (new := .map (ms.push { key := ρ ix, val := ρ y, born := clk }) (clk + 1)) g1 trivial trivial (fun b o => M b o \/ Oth b o)
      refine ⟨_, vt _ g1, by simp [g2], fun i x' y' hx hy => ?_, by simp [g4], fun t ht => ?_, ?_⟩
      · by_cases hi : i < es.length
        · rw [List.getElem?_append_left hi] at hx
          rw [Array.getElem?_push_lt (by omega)] at hy
          have hy : ms[i]? = some y' := by rw [<- hy]; simp
          exact ⟨(g3 i x' y' hx hy).1.keep hkp, (g3 i x' y' hx hy).2.keep hkp⟩
        · rw [List.getElem?_append_right (by omega)] at hx
          have hi2 : i = es.length := by
            have := (List.getElem?_eq_some_iff.1 hx).1
            simp at this; omega
          subst hi2
          rw [g2, Array.getElem?_push_size] at hy
          simp at hx hy
          subst hx hy
          exact ⟨h2.keep hkp, h3.keep hkp⟩
      · rcases List.mem_append.1 ht with ht | ht
        · have := g5 t ht; omega
        · simp at ht; omega
      · rw [List.pairwise_append]
        refine ⟨g6, by simp, fun a ha b hb => ?_⟩
        simp at hb
        subst hb
        exact g5 a ha
  · have hme : ms[i]? = some me := by simpa using r5
    have hkey : me.key = ρ ix := by
      have := (g3 i en me r4 hme).1
      rw [hsame en (List.mem_of_getElem? r4) r6] at this
      exact (wd hdet this h2).1
    have hsb := (wd hdet h2 h2).2 9999
    have hstay : (Instr.keyThatStays (((ms[i]?).map (·.key)).getD (ρ ix)) (ρ ix)).run P w = .ok (ρ ix) w := by
      rw [hme]
      simp only [Option.map_some, Option.getD_some, hkey, Instr.keyThatStays]
      rw [if_pos hsb]; rfl
    refine done { w with heap := w.heap.setIfInBounds m (.map (ms.modify i fun e => { e with key := ρ ix, val := ρ y }) clk) } ?_ ?_
    · rw [hexec]
      simp only [Instr.mapUpdate, Sem.run_bind, hund, Result.andThen_ok, h1, yh g1, hck, r1, hstay, j8 _ g1]
    · refine zan sto hm g1 trivial trivial ?_
      unfold qp
      rw [r3]
      have hkp := qm (new := .map (ms.modify i fun e => { e with key := ρ ix, val := ρ y }) clk) g1 trivial trivial (fun b o => M b o \/ Oth b o)
      refine ⟨_, vt _ g1, by simp [g2], fun j x' y' hx hy => ?_, ?_, g5, g6⟩
      · rw [Array.getElem?_modify] at hy
        by_cases hij : i = j
        · subst hij
          rw [if_pos rfl, hme] at hy
          simp at hy
          rw [List.getElem?_set_self (List.getElem?_eq_some_iff.1 r4).1] at hx
          simp at hx
          subst hx hy
          exact ⟨h2.keep hkp, h3.keep hkp⟩
        · rw [if_neg hij] at hy
          rw [List.getElem?_set_ne hij] at hx
          exact ⟨(g3 j x' y' hx hy).1.keep hkp, (g3 j x' y' hx hy).2.keep hkp⟩
      · rw [g4]
        apply List.ext_getElem?
        intro j
        simp only [List.getElem?_map, Array.getElem?_toList, Array.getElem?_modify]
        by_cases hij : i = j
        · subst hij; rw [if_pos rfl]; cases ms[i]? <;> rfl
        · rw [if_neg hij]
end
end Go.V
namespace Go.V
section
variable {P : Program} {c : Cfg} {w : World} {st : Store} {Oth M : Nat -> Nat -> Prop}
/-- A new object that is no row of cells. -/
theorem vq (sto : StoreOK st Oth M w) (new : Obj) {y : AObj} (hy : ObjRel (w.alloc new) (fun b o => addB M w.heap.size b o \/ Oth b o) y w.heap.size) :
    Fresh st w.heap.size /\ StoreOK (st.setObj w.heap.size y) Oth (addB M w.heap.size) (w.alloc new) /\ Chg M w (addB M w.heap.size) (w.alloc new) := by
  refine ⟨sto.fresh (Nat.le_refl _), ?_, qq w new M⟩
  have h := sto.alloc new
  refine { obj := fun b z hz => ?_, tok := h.tok, mlt := h.mlt, olt := h.olt, dis := h.dis }
  by_cases hb : b = w.heap.size
  · subst hb
    rw [zb] at hz
    cases hz
    exact ⟨hy, fun o => .inr rfl⟩
  · rw [zc hb] at hz
    exact h.obj b z hz
theorem xo {o : Oper} {t : TypeId} (ho : o.op = .makeMap t none) {R : AV -> Store -> Prop}
    (h : ∀ b, Fresh st b -> R (.s (.map (some b))) (st.setObj b (.map [] [] 0))) : AEff P c o [] st R := by
  refine ⟨fun Oth M w ρ hI sto hr => ?_⟩
  have hrun : (execOp ρ o).run P w = .ok (.value (.map (some w.heap.size))) (w.alloc (.map #[] 0)) := by
    simp [execOp, ho, Instr.makeMap]
  rw [hrun]
  obtain ⟨h1, h2, h3⟩ := vq sto (.map #[] 0) (y := .map [] [] 0) ⟨#[], yb w _, rfl, fun i x y hx => by simp at hx, rfl, by simp, List.Pairwise.nil⟩
  exact ⟨_, _, _, h _ h1, .s _, h2, h3⟩
/-- The entries with one less. -/
def ki (es : List (AV × AV)) (bs : List Nat) (clk : Nat) (q : AV × AV -> Bool) : AObj :=
  match es.findIdx? q with
  | some i => .map (es.eraseIdx i) (bs.eraseIdx i) clk
  | none => .map es bs clk
theorem getElem?_eraseIdx' {α : Type} (l : List α) (i j : Nat) : (l.eraseIdx i)[j]? = if j < i then l[j]? else l[j + 1]? := List.getElem?_eraseIdx
theorem q9 {α β : Type} (f : α -> β) : ∀ (l : List α) (i : Nat), (l.map f).eraseIdx i = (l.eraseIdx i).map f
  | [], _ => rfl
  | _ :: _, 0 => rfl
  | a :: l, i + 1 => by simp [q9 f l i]
theorem ky {o : Oper} {cl : Call} {t kt e : TypeId} {x ix : Operand} (ho : o.op = .call cl) (hcl : cl.callee = .builtin .delete) (hargs : cl.args = #[x, ix]) (hat : cl.argTypes[0]? = some t)
    {it ik : TI} (hit : c.I t = some it) (hty : it.ty = .map kt e) (hik : c.I kt = some ik)
    {m clk : Nat} {es : List (AV × AV)} {bs : List Nat} {k : AV} (hm : st.obj m = some (.map es bs clk)) (hk : zjf c.I kt k = true) (q : AV × AV -> Bool) (hq : ∀ e ∈ es, eqAV c.I 5 kt k e.1 = some (q e))
    {R : AV -> Store -> Prop} (h : R (.tup []) (st.setObj m (ki es bs clk q))) : AEff P c o [.s (.map (some m)), k] st R := by
  refine ⟨fun Oth M w ρ hI sto hr => ?_⟩
  have hops : o.op.operands = #[x, ix] := by rw [ho]; simp [Op.operands, Call.operands, hcl, hargs]
  rw [hops] at hr
  have hr : Reads w (fun b o => M b o \/ Oth b o) [.s (.map (some m)), k] [ρ x, ρ ix] := by simpa using hr
  obtain ⟨u, v', he, h1, h2⟩ := zga hr
  simp only [List.cons.injEq, and_true] at he
  obtain ⟨hu, hv⟩ := he
  rw [<- hu] at h1
  rw [<- hv] at h2
  have h1 := VRel.eq_s h1
  obtain ⟨⟨ms, g1, g2, g3, g4, g5, g6⟩, hM⟩ := sto.obj m _ hm
  obtain ⟨r, r1, r2⟩ := x8 (kt := kt) (k := k) (kv := ρ ix) hI h2 q (es := es) (ms := ms.toList) (by simpa using g2) (fun i x y hx hy => (g3 i x y hx (by simpa using hy)).1) hq (by rw [hik]; rfl)
  have hck := xq hI hk h2 ms.isEmpty
  have hund := zh (P := P) (zbu (hI _ _ hit) hty)
  have hexec : (execOp ρ o).run P w = ((Builtin.delete_ cl.argTypes o.type #[ρ x, ρ ix]).run P w).andThen fun v w' => .ok (.value v) w' := by
    simp [execOp, ho, resolve, hcl, invoke, builtin, hargs]
  have done : ∀ w', (execOp ρ o).run P w = .ok (.value (.tuple #[])) w' -> (StoreOK (st.setObj m (ki es bs clk q)) Oth M w' /\ Chg M w M w') ->
      match (execOp ρ o).run P w with
      | .ok (.value v) w' => zl st R Oth M w v w'
      | .ok .skip w' => o.dst = none /\ zl st R Oth M w (.tuple #[]) w'
      | _ => False := by
    intro w' hrun hok
    rw [hrun]
    exact ⟨_, _, M, h, zz Reads.nil, hok.1, hok.2⟩
  rcases r2 with ⟨rfl, r3⟩ | ⟨i, en, me, rfl, r3, r4, r5, r6⟩
  · refine done { w with heap := w.heap.setIfInBounds m (.map ms clk) } ?_ ?_
    · rw [hexec]
      simp [Builtin.delete_, hat, hund, h1, yh g1, hck, r1, j8 _ g1]
    · refine zan sto hm g1 trivial trivial ?_
      unfold ki
      rw [r3]
      have hkp := qm (new := .map ms clk) g1 trivial trivial (fun b o => M b o \/ Oth b o)
      exact ⟨_, vt _ g1, g2, fun i x' y' hx hy => ⟨(g3 i x' y' hx hy).1.keep hkp, (g3 i x' y' hx hy).2.keep hkp⟩, g4, g5, g6⟩
  · refine done { w with heap := w.heap.setIfInBounds m (.map (ms.eraseIdxIfInBounds i) clk) } ?_ ?_
    · rw [hexec]
      simp [Builtin.delete_, hat, hund, h1, yh g1, hck, r1, j8 _ g1]
    · refine zan sto hm g1 trivial trivial ?_
      unfold ki
      rw [r3]
      have hkp := qm (new := .map (ms.eraseIdxIfInBounds i) clk) g1 trivial trivial (fun b o => M b o \/ Oth b o)
      have hi : i < ms.size := by have := (List.getElem?_eq_some_iff.1 r4).1; omega
      have htl : (ms.eraseIdxIfInBounds i).toList = ms.toList.eraseIdx i := by
        simp [Array.eraseIdxIfInBounds, hi]
      have hsub : (bs.eraseIdx i).Sublist bs := List.eraseIdx_sublist ..
      refine ⟨_, vt _ g1, ?_, fun j x' y' hx hy => ?_, ?_, fun t ht => g5 t (hsub.subset ht), g6.sublist hsub⟩
      · have : (ms.eraseIdxIfInBounds i).size = (ms.toList.eraseIdx i).length := by rw [<- htl, Array.length_toList]
        rw [this, List.length_eraseIdx, List.length_eraseIdx]
        simp [g2]
      · have hy : (ms.toList.eraseIdx i)[j]? = some y' := by rw [<- htl, Array.getElem?_toList]; exact hy
        rw [getElem?_eraseIdx'] at hx hy
        by_cases hj : j < i
        · rw [if_pos hj] at hx hy
          have := g3 j x' y' hx (by simpa using hy)
          exact ⟨this.1.keep hkp, this.2.keep hkp⟩
        · rw [if_neg hj] at hx hy
          have := g3 (j + 1) x' y' hx (by simpa using hy)
          exact ⟨this.1.keep hkp, this.2.keep hkp⟩
      · rw [htl, g4, q9]
theorem zh4 {o : Oper} {t kt e : TypeId} {x : Operand} (ho : o.op = .range t x) {it : TI} (hit : c.I t = some it) (hty : it.ty = .map kt e)
    {m clk : Nat} {es : List (AV × AV)} {bs : List Nat} (hm : st.obj m = some (.map es bs clk)) {R : AV -> Store -> Prop}
    (h : ∀ b, Fresh st b -> R (.s (.pointer (some ⟨b, 0, none⟩))) (st.setObj b (.iter m clk [] clk))) : AEff P c o [.s (.map (some m))] st R := by
  refine ⟨fun Oth M w ρ hI sto hr => ?_⟩
  rw [ho] at hr
  have hr : Reads w (fun b o => M b o \/ Oth b o) [.s (.map (some m))] [ρ x] := by simpa [Op.operands] using hr
  obtain ⟨u, he, h1⟩ := zgb hr
  simp only [List.cons.injEq, and_true] at he
  rw [<- he] at h1
  have h1 := VRel.eq_s h1
  obtain ⟨⟨ms, g1, g2⟩, hM⟩ := sto.obj m _ hm
  have hund := zh (P := P) (zbu (hI _ _ hit) hty)
  have hrun : (execOp ρ o).run P w = .ok (.value (.pointer (some ⟨w.heap.size, 0, none⟩))) (w.alloc (.mapIter (some m) clk #[] clk)) := by
    simp [execOp, ho, Instr.range, hund, h1, yh g1]
  rw [hrun]
  obtain ⟨h2, h3, h4⟩ := vq sto (.mapIter (some m) clk #[] clk) (y := .iter m clk [] clk) (yb w _)
  exact ⟨_, _, _, h _ h2, .s _, h3, h4⟩
theorem k9 (n : Nat) (hn : 0 < n) (w : World) : ∃ i w', i < n /\ Grow w w' /\ w'.heap = w.heap /\ (choose (.mapNext n)).run P w = .ok i w' := by
  by_cases h1 : n <= 1
  · refine ⟨0, w, hn, Grow.refl w, rfl, ?_⟩
    simp only [choose, Sem.run]
    rw [if_pos (by simpa [Question.forced] using h1)]
  · refine ⟨w.tape w.drawn (.mapNext n) % n, w.drew, Nat.mod_lt _ hn, Grow.drew w, rfl, ?_⟩
    simp only [choose, Sem.run]
    rw [if_neg (by simpa [Question.forced] using h1)]
    rfl
theorem zko {o : Oper} {x : Operand} (ho : o.op = .next x false)
    {b m clk : Nat} {es : List (AV × AV)} {bs seen : List Nat} (hb : st.obj b = some (.iter m clk seen clk)) (hm : st.obj m = some (.map es bs clk)) {R : AV -> Store -> Prop}
    (h1 : (∀ t ∈ bs, t ∈ seen) -> R (.tup [.s (.bool false)]) st)
    (h2 : ∀ (i : Nat) (e : AV × AV) (t : Nat), es[i]? = some e -> bs[i]? = some t -> t ∉ seen -> R (.tup [.s (.bool true), e.1, e.2]) (st.setObj b (.iter m clk (seen ++ [t]) clk))) : AEff P c o [.s (.pointer (some ⟨b, 0, none⟩))] st R := by
  refine ⟨fun Oth M w ρ hI sto hr => ?_⟩
  rw [ho] at hr
  have hr : Reads w (fun b o => M b o \/ Oth b o) [.s (.pointer (some ⟨b, 0, none⟩))] [ρ x] := by simpa [Op.operands] using hr
  obtain ⟨u, he, hx⟩ := zgb hr
  simp only [List.cons.injEq, and_true] at he
  rw [<- he] at hx
  have hx := VRel.eq_s hx
  obtain ⟨⟨ms, g1, g2, g3, g4, g5, g6⟩, hM⟩ := sto.obj m _ hm
  obtain ⟨hit, hMb⟩ := sto.obj b _ hb
  have hit : w.heap[b]? = some (.mapIter (some m) clk seen.toArray clk) := hit
  have born : ∀ y ∈ ms, y.born < clk := fun y hy => g5 _ (by rw [g4]; exact List.mem_map_of_mem (Array.mem_toList_iff.2 hy))
  have hall : (!seen.toArray.isEmpty && !ms.isEmpty && ms.all (fun e => decide (e.born >= clk))) = false := by
    cases hms : ms.isEmpty with
    | true => simp
    | false =>
      have hne : 0 < ms.size := by
        have : ms ≠ #[] := fun e => by rw [e] at hms; simp at hms
        cases hs : ms.size with
        | zero => exact absurd (Array.eq_empty_of_size_eq_zero hs) this
        | succ n => omega
      have : ms.all (fun e => decide (e.born >= clk)) = false := by
        rw [Array.all_eq_false']
        exact ⟨ms[0], by simp, by have := born ms[0] (by simp); simp; omega⟩
      rw [this]; simp
  have hnew : (Array.filter (fun e => !seen.toArray.contains e.born) ms).filter (fun e => decide (e.born >= clk)) = #[] := by
    rw [Array.filter_eq_empty_iff]
    intro y hy
    have := born y (by rw [Array.mem_filter] at hy; exact hy.1)
    simp; omega
  have hold : (Array.filter (fun e => !seen.toArray.contains e.born) ms).filter (fun e => decide (e.born < clk)) = Array.filter (fun e => !seen.toArray.contains e.born) ms := by
    rw [Array.filter_eq_self]
    intro y hy
    have := born y (by rw [Array.mem_filter] at hy; exact hy.1)
    simpa using this
  have hgo : (getObj b).run P w = .ok (.mapIter (some m) clk seen.toArray clk) w := by simp [getObj, Sem.run, hit]
  generalize hleft : Array.filter (fun e => !seen.toArray.contains e.born) ms = left at hnew hold
  have hlm : ∀ y ∈ left, y ∈ ms /\ y.born ∉ seen := by
    intro y hy
    rw [<- hleft, Array.mem_filter] at hy
    exact ⟨hy.1, by simpa using hy.2⟩
  let cands : Array (Option MapEntry) := (if left.isEmpty then #[none] else #[]) ++ (left ++ #[]).map some
  have hcs : 0 < cands.size := by
    cases hl : left.isEmpty with
    | true => simp [cands, hl]; omega
    | false =>
      have : left ≠ #[] := fun e => by rw [e] at hl; simp at hl
      have : left.size ≠ 0 := fun e => this (Array.eq_empty_of_size_eq_zero e)
      simp [cands, hl]
      omega
  obtain ⟨i, w1, hi, hg, hheap, hch⟩ := k9 (P := P) cands.size hcs w
  have hexec : (execOp ρ o).run P w = ((Instr.next (ρ x) false o.type).run P w).andThen fun v w' => .ok (.value v) w' := by
    simp [execOp, ho]
  cases hl : left.isEmpty with
  | true =>
    have hc0 : cands = #[none] := by
      have : left = #[] := by simpa using hl
      simp [cands, this]
    have hi0 : i = 0 := by rw [hc0] at hi; simpa using hi
    have hrun : (execOp ρ o).run P w = .ok (.value (.tuple #[.bool false])) w1 := by
      rw [hexec]
      simp only [Instr.next, hx, Sem.run_bind, hgo, Result.andThen_ok, yh g1, hall, Bool.false_eq_true, if_false, hleft, hold, hnew, Sem.run_pure]
      show ((((choose (.mapNext cands.size)).run P w).andThen _).andThen _) = _
      rw [hch]
      simp only [Result.andThen_ok]
      rw [show ((if left.isEmpty = true then #[none] else #[]) ++ Array.map some (left ++ #[]) : Array (Option MapEntry)) = cands from rfl, hc0, hi0]
      simp
    rw [hrun]
    refine ⟨_, st, M, h1 fun t ht => ?_, zz (Reads.cons (.s _) Reads.nil), sto.grow hg, hg.chg M⟩
    rw [g4] at ht
    obtain ⟨y, hy, rfl⟩ := List.mem_map.1 ht
    have hle : left = #[] := by simpa using hl
    rw [<- hleft, Array.filter_eq_empty_iff] at hle
    have := hle _ (Array.mem_toList_iff.1 hy)
    simpa using this
  | false =>
    have hce : cands = left.map some := by simp [cands, hl]
    have hil : i < left.size := by rw [hce] at hi; simpa using hi
    have hcg : cands[i]? = some (some left[i]) := by rw [hce]; simp [hil]
    have hgo1 : w1.heap[b]? = some (.mapIter (some m) clk seen.toArray clk) := by rw [hheap]; exact hit
    have hset : ∀ ob : Obj, (setObj b ob).run P w1 = .ok () { w1 with heap := w1.heap.setIfInBounds b ob } := fun ob => by simp [setObj, Sem.run, hgo1]
    have hrun : (execOp ρ o).run P w = .ok (.value (.tuple #[.bool true, left[i].key, left[i].val])) { w1 with heap := w1.heap.setIfInBounds b (.mapIter (some m) clk (seen.toArray.push left[i].born) clk) } := by
      rw [hexec]
      simp only [Instr.next, hx, Sem.run_bind, hgo, Result.andThen_ok, yh g1, hall, Bool.false_eq_true, if_false, hleft, hold, hnew, Sem.run_pure]
      show ((((choose (.mapNext cands.size)).run P w).andThen _).andThen _) = _
      rw [hch]
      simp only [Result.andThen_ok]
      rw [show ((if left.isEmpty = true then #[none] else #[]) ++ Array.map some (left ++ #[]) : Array (Option MapEntry)) = cands from rfl, hcg]
      simp only [Sem.run_bind, hset, Result.andThen_ok, Sem.run_pure]
    rw [hrun]
    obtain ⟨hlm1, hlm2⟩ := hlm left[i] (by simp)
    obtain ⟨j, hj, hje⟩ := Array.mem_iff_getElem.1 hlm1
    have hjs : j < es.length := by omega
    have hms : ms[j]? = some left[i] := by rw [Array.getElem?_eq_getElem hj, hje]
    have hrel := g3 j es[j] left[i] (List.getElem?_eq_getElem hjs) hms
    have hbs : bs[j]? = some left[i].born := by
      rw [g4, List.getElem?_map, Array.getElem?_toList, hms]; rfl
    have sto1 := sto.grow hg
    have hk1 := hg.keeps (fun b o => M b o \/ Oth b o)
    have hk2 := qm (new := .mapIter (some m) clk (seen.toArray.push left[i].born) clk) hgo1 trivial trivial (fun b o => M b o \/ Oth b o)
    obtain ⟨s1, s2⟩ := zan (y := .iter m clk (seen ++ [left[i].born]) clk) sto1 hb hgo1 trivial trivial (new := .mapIter (some m) clk (seen.toArray.push left[i].born) clk) (by
      show _ = _
      rw [vt _ hgo1]
      simp)
    exact ⟨_, _, M, h2 j es[j] left[i].born (List.getElem?_eq_getElem hjs) hbs hlm2,
      zz (Reads.cons (.s _) (Reads.cons ((hrel.1.keep hk1).keep hk2) (Reads.cons ((hrel.2.keep hk1).keep hk2) Reads.nil))), s1, (hg.chg M).trans s2⟩
end
end Go.V
namespace Go.V
section
variable {P : Program} {c : Cfg} {w : World} {st : Store} {Oth M : Nat -> Nat -> Prop}
/-- Cells of an object are stored. -/
theorem xi (sto : StoreOK st Oth M w) {b o : Nat} {l xs : List AV} {vs : List Value} {w' : World} (hk : st.obj b = some (.cells l))
    (hx : Reads w (fun b o => M b o \/ Oth b o) xs vs) (hw : Wrote w b o vs w') : StoreOK (st.setObj b (.cells (zt l o xs))) Oth M w' /\ Chg M w M w' := by
  have hM := (sto.obj b _ hk).2
  have hT : ∀ o, M b o \/ Oth b o := fun o => .inl (hM o)
  refine ⟨{ obj := fun b' x hx' => ?_, tok := fun b' top ht => ?_, mlt := fun b' o' hm => ?_, olt := fun b' o' hm => ?_, dis := sto.dis }, hw.chg hM⟩
  · by_cases he : b' = b
    · subst he
      rw [zb] at hx'
      cases hx'
      exact ⟨CellsRel.wrote hw hT (sto.obj b' _ hk).1 hx, hM⟩
    · rw [zc he] at hx'
      exact ⟨ObjRel.same (sto.obj b' x hx').1 (hw.keeps hT) (hw.other b' he), (sto.obj b' x hx').2⟩
  · obtain ⟨c, e, fr, h1, h2, h3, h4⟩ := sto.tok b' top ht
    by_cases he : b' = b
    · subst he
      obtain ⟨c', h5, _, h6⟩ := hw.blk c e fr h1
      exact ⟨c', e, fr, h5, by rw [h6]; exact h2, by rw [h6]; exact h3, h4⟩
    · exact ⟨c, e, fr, by rw [hw.other b' he]; exact h1, h2, h3, h4⟩
  · rw [hw.size]; exact sto.mlt b' o' hm
  · rw [hw.size]; exact sto.olt b' o' hm
/-- A new row of cells. -/
theorem ql (sto : StoreOK st Oth M w) (cs : Array Value) (e : TypeId) {l : List AV} (h : Reads w (fun b o => M b o \/ Oth b o) l cs.toList) :
    Fresh st w.heap.size /\ StoreOK (st.setObj w.heap.size (.cells l)) Oth (addB M w.heap.size) (w.alloc (.cells cs e)) /\ Chg M w (addB M w.heap.size) (w.alloc (.cells cs e)) :=
  vq sto (.cells cs e) (y := .cells l) (qr w e M Oth h)
theorem zbo {T : Nat -> Nat -> Prop} {b n cap k : Nat} {l : List AV} (h : CellsRel w T l b) (hn : n * k <= l.length) :
    ∃ new : Array Value, Reads w T (l.take (n * k)) new.toList /\ new.size = n * k /\ ∀ w', w'.heap = w.heap -> (Builtin.firstCells k n (.slice (some ⟨b, 0, none⟩) n cap)).run P w' = .ok new w' := by
  obtain ⟨c, e, fr, h1, h2, h3, h4⟩ := h
  have hsz : n * k <= c.size := by omega
  refine ⟨((List.range' 0 (n * k)).map fun i => c.getD i undef).toArray, ?_, by simp, fun w' hw => ?_⟩
  · refine ⟨by simp; omega, fun i x y hx hy => ?_⟩
    have hi : i < n * k := by
      have := (List.getElem?_eq_some_iff.1 hx).1
      simp at this; omega
    rw [List.getElem?_take_of_lt hi] at hx
    simp [hi] at hy
    subst hy
    refine h4 i x _ hx ?_
    rw [Array.getElem?_eq_getElem (by omega)]
    simp [show i < c.size by omega]
  · have := z7 (P := P) ⟨b, 0, none⟩ w' (fun i => c.getD i undef) (n * k) 0 #[] (fun p _ hp => by
      rw [qf, za0 hw]
      simp only [World.cell?, h1]
      have : p < c.size := by omega
      simp [this])
    simp only [Builtin.firstCells, loadCells]
    simpa using this
theorem zbz {T : Nat -> Nat -> Prop} {xs : List AV} {vs : List Value} (h : Reads w T xs vs) (h1 : ∀ x ∈ xs, x.one = true) : ∀ v ∈ vs, zv v = true := by
  intro v hv
  obtain ⟨i, hi⟩ := List.mem_iff_getElem?.1 hv
  have hlt : i < xs.length := by rw [h.1]; exact (List.getElem?_eq_some_iff.1 hi).1
  exact zfj (h.2 i xs[i] v (List.getElem?_eq_getElem hlt) hi) (h1 _ (List.getElem_mem hlt))
/-- An append to a slice over an object. -/
theorem zgj {e : TypeId} {ie : TI} (hie : c.I e = some ie) {b n cap : Nat} {l : List AV} {x : AV} {rows : List (List AV)} (ho : st.obj b = some (.cells l)) (hcap : cap * ie.size <= l.length) (hn : n <= cap)
    (hx : yy ie.size (.av x) = some rows) (hroom : room (n + rows.length) ie.bytes) {K : AV -> Store -> Prop}
    (h1 : n + rows.length <= cap -> K (.s (.slice (some ⟨b, 0, none⟩) (n + rows.length) cap)) (st.setObj b (.cells (zt l (n * ie.size) rows.flatten))))
    (h2 : cap < n + rows.length -> ∀ b' cap', Fresh st b' -> n + rows.length <= cap' -> cap' <= 9223372036854775807 -> K (.s (.slice (some ⟨b', 0, none⟩) (n + rows.length) cap')) (st.setObj b' (.cells (l.take (n * ie.size) ++ rows.flatten ++ List.replicate ((cap' - (n + rows.length)) * ie.size) .any)))) :
    AppX P c st e (.s (.slice (some ⟨b, 0, none⟩) n cap)) x K := by
  refine ⟨⟨ie, hie⟩, fun ie' hie' Oth M w sv xv argTypes ty args t sto hs hxv hat ht1 hu hti h0 h1' => ?_⟩
  rw [hie] at hie'
  cases hie'
  have hs := VRel.eq_s hs
  subst hs
  have A : AppArgs P c argTypes args t e ie (some ⟨b, 0, none⟩) n cap xv := ⟨hat, ht1, hu, hti, h0, h1'⟩
  obtain ⟨hl1, hl2, new, hnew, hone, hnsz, hfc⟩ := k5 (P := P) (β := fun _ => 0) (k := ie.size) (x := .av x) hxv hx
  have hnn : n * ie.size <= l.length := Nat.le_trans (Nat.mul_le_mul_right _ hn) hcap
  by_cases hc : n + rows.length <= cap
  · obtain ⟨⟨cs, e0, fr, hb0, huf, hlen, hrel⟩, hM⟩ := sto.obj b _ ho
    have hfit : n * ie.size + new.toList.length <= cs.size := by
      rw [Array.length_toList, hnsz, <- Nat.add_mul, <- hlen]
      exact Nat.le_trans (Nat.mul_le_mul_right _ hc) hcap
    obtain ⟨w', hw1, hw2⟩ := qo (P := P) w b (n * ie.size) new.toList 0 w cs e0 fr hb0 (.inl huf) hfit hone
    have hrun := kx (w' := w') ty A hl1 (hfc w rfl) hc (fun a ha => by
      cases ha
      rw [qf, Nat.zero_add]; exact hw1) (fun h => by cases h)
    obtain ⟨k1, k2⟩ := xi sto ho hnew hw2
    exact ⟨_, _, hrun, _, _, M, h1 hc, .s _, k1, k2⟩
  · have hc : cap < n + rows.length := by omega
    obtain ⟨old, hold1, hold2, hold3⟩ := zbo (P := P) (cap := cap) (sto.obj b _ ho).1 hnn
    obtain ⟨newCap, rest, g1, g0, g2, g3⟩ := x9 ty A hl1 (hfc w.drew rfl) (hold3 w.drew rfl) hc hroom
    have gd : Grow w w.drew := Grow.drew w
    have sto1 := sto.grow gd
    obtain ⟨f1, f2, f3⟩ := ql sto1 (old ++ new ++ rest) e (l := l.take (n * ie.size) ++ rows.flatten ++ List.replicate rest.size .any) (by
      rw [Array.toList_append, Array.toList_append]
      refine ((hold1.append hnew).append ⟨by simp, fun i x y hx hy => ?_⟩).keep (gd.keeps _)
      rw [List.getElem?_replicate] at hx
      split at hx
      · cases hx; exact .any _
      · cases hx)
    have e1 : w.drew.heap.size = w.heap.size := rfl
    rw [g2] at f2
    exact ⟨_, _, g3, _, _, _, h2 hc _ newCap f1 g1 g0, .s _, f2, (gd.chg M).trans f3⟩
/-- An append to no slice, that makes an object. -/
theorem zgk {e : TypeId} {ie : TI} (hie : c.I e = some ie) {x : AV} {rows : List (List AV)} (hx : yy ie.size (.av x) = some rows) (hroom : room rows.length ie.bytes) (hne : 0 < rows.length) {K : AV -> Store -> Prop}
    (h2 : ∀ b' cap', Fresh st b' -> rows.length <= cap' -> cap' <= 9223372036854775807 -> K (.s (.slice (some ⟨b', 0, none⟩) rows.length cap')) (st.setObj b' (.cells (rows.flatten ++ List.replicate ((cap' - rows.length) * ie.size) .any)))) :
    AppX P c st e (.s (.slice none 0 0)) x K := by
  refine ⟨⟨ie, hie⟩, fun ie' hie' Oth M w sv xv argTypes ty args t sto hs hxv hat ht1 hu hti h0 h1' => ?_⟩
  rw [hie] at hie'
  cases hie'
  have hs := VRel.eq_s hs
  subst hs
  have A : AppArgs P c argTypes args t e ie none 0 0 xv := ⟨hat, ht1, hu, hti, h0, h1'⟩
  obtain ⟨hl1, hl2, new, hnew, hone, hnsz, hfc⟩ := k5 (P := P) (β := fun _ => 0) (k := ie.size) (x := .av x) hxv hx
  obtain ⟨newCap, rest, g1, g0, g2, g3⟩ := x9 (old := #[]) ty A hl1 (hfc w.drew rfl) (by simp [Builtin.firstCells]) (by omega) (by simpa using hroom)
  have gd : Grow w w.drew := Grow.drew w
  have sto1 := sto.grow gd
  obtain ⟨f1, f2, f3⟩ := ql sto1 (#[] ++ new ++ rest) e (l := rows.flatten ++ List.replicate rest.size .any) (by
    rw [Array.toList_append, Array.toList_append]
    refine ((show Reads w _ rows.flatten ([] ++ new.toList) from hnew).append ⟨by simp, fun i x y hx hy => ?_⟩).keep (gd.keeps _)
    rw [List.getElem?_replicate] at hx
    split at hx
    · cases hx; exact .any _
    · cases hx)
  rw [g2] at f2
  simp only [Nat.zero_add] at g1 g3 f2
  exact ⟨_, _, g3, _, _, _, h2 _ newCap f1 g1 g0, .s _, f2, (gd.chg M).trans f3⟩
/-- A slice of ints over an object: its numbers, and how much room. -/
def Ints (st : Store) (v : AV) (ns : List Int) : Prop :=
  (v = .s (.slice none 0 0) /\ ns = []) \/ ∃ b cap L, v = .s (.slice (some ⟨b, 0, none⟩) ns.length cap) /\ st.obj b = some (.cells (ns.map (fun n => AV.s (.int .i64 n)) ++ L)) /\ ns.length <= cap /\ cap <= ns.length + L.length /\ cap <= 9223372036854775807
end
end Go.V
