/- The ground on which laws of thronglaw26 are proved: contracts of functions and plain lemmas; no condition beyond the row's own. -/
import Derived.Test.YtimehecofabmjaaGreatSI
set_option linter.unusedSimpArgs false
set_option linter.unusedVariables false
namespace Go.Proofs
open Go Go.V
set_option linter.unusedVariables false

theorem u8C_lenR (c : UInt8) : (u8C c).length = 1 := rfl
theorem rows_av {α : Type} {k : Nat} {f : α → List AV} {S : Store} {v : AV} {l : List α} (h : RowsO k f S v l) : AV.le v v := AV.le_refl _

/-- A map's tiles stand in memory of their own. -/
def MapQ (b : List UInt8) (r : AV) (S : Store) : Prop := ∃ v, RowsO 1 u8C S v (mapParse b).1.T ∧ r = .tup [.agg [int (mapParse b).1.W, int (mapParse b).1.H, v], int (mapParse b).2]

set_option maxHeartbeats 1000000 in
theorem mapR_key (b : List UInt8) (hb : b.length ≤ 1048576) (R : AV → Store → Prop) (h : ∀ r S, MapQ b r S → R r S) : ACalls Tryz.prog 28 [byts b] Store.empty R := by
  refine ACalls.of_body (c := cfg 77 [10, 12] [25]) infoOK Tryz.func28 (by rfl) (by rfl) (by rfl) (by rfl) ?_
  intro p hp
  refine ⟨by decide, fun tk htk => ?_⟩
  refine optR (optR (optR (optK_intro _ (setTok_self _ _ _) ?_)))
  refine ACalls.drop (st' := rdO p ⟨b, 0⟩ Store.empty) (has_tok htk.2) ?_
  refine same_spec p ⟨b, 0⟩ Store.empty [84, 71] (AV.le_tok _ _ _) (by simp) _ ?_
  have l1 := same_len ⟨b, 0⟩ [84, 71]
  simp only at l1
  refine num_spec p _ Store.empty 1 128 (by omega) _ ?_
  have l2 := num_len (Rd.same ⟨b, 0⟩ [84, 71]) 1 128
  refine num_spec p (mapHead b).2 Store.empty 1 128 (by unfold mapHead; omega) _ ?_
  have lt := mapTiles_len b
  refine AWp.loop (σ := Int × Rd × List UInt8 × AV) ⟨fun x => [(0, .av (byts b)), (2, .bx 2 0), (4, .bx 4 0), (5, .av (ptr p)), (6, .av (int x.1))], fun x => [(2, [int 0, int 0, nil]), (4, [int (mapHead b).1, int (mapSide b).1, x.2.2.2])],
    fun x st' => (x.2.1.e = 0 → 0 ≤ x.1 ∧ x.1 + x.2.2.1.length ≤ 16384) ∧ Rd.tilesGo x.1.toNat x.2.1 x.2.2.1 = mapTiles b ∧ st'.obj p = some (.cells [byts x.2.1.b, int x.2.1.e]) ∧ RowsO 1 u8C st' x.2.2.2 x.2.2.1 ∧ ∀ bb n c, x.2.2.2 = .s (.slice (some ⟨bb, 0, none⟩) n c) → bb ≠ p, fun x => x.1.toNat⟩ infoOK ?_ ?_
  · refine ⟨(IntKind.i64.wrap ((mapHead b).1 * (mapSide b).1), (mapSide b).2, [], nil), trivial, ⟨fun he => ?_, ?_, rdO_get _ _ _, .inl ⟨rfl, rfl⟩, fun _ _ _ e => (by cases e)⟩, ⟨LV.le_refl _, LV.le_refl _, LV.le_refl _, LV.le_refl _, LV.le_refl _, trivial⟩, (by repeat (first | exact trivial | refine ⟨rfl, ?_⟩ | refine ⟨optR (optR (optR (optK_intro _ (setObj_self _ _ _) rfl))), ?_⟩))⟩
    · have := mapSide_ok he
      simp only
      rw [wrap_i64 ⟨by omega, by omega⟩]
      simp; omega
    · simp only
      by_cases he : (mapSide b).2.e = 0
      · have := mapSide_ok he
        rw [wrap_i64 ⟨by omega, by omega⟩]
        rfl
      · unfold mapTiles
        rw [tilesGo_bad he, tilesGo_bad he]
  rintro ⟨m, s, l, v⟩ S ⟨hm, hg, hpo, hv, hvp⟩
  dsimp only at hm hg hpo hv hvp ⊢
  by_cases hx : m > 0 ∧ s.e = 0
  · obtain ⟨h1, h2⟩ := hx
    refine bcd (fun _ => ?_) (fun h => absurd h1 h)
    refine optK_intro _ hpo ?_
    refine bceq (fun _ => ?_) (fun h => absurd h2 h)
    obtain ⟨b1, b2⟩ := hm h2
    refine onRd hpo (byte_spec p s S _ ?_)
    refine must_spec p _ S (decide ((s.byte.1.toNat : Int) ≤ 5)) _ ?_
    refine ⟨by decide, ?_⟩
    have e5 : decide ((s.byte.1.toNat : Int) ≤ 5) = decide (s.byte.1.toNat ≤ 5) := by rw [Bool.eq_iff_iff]; simp; omega
    rw [e5]
    have hv2 : RowsO 1 u8C (rdO p (s.byte.2.must (decide (s.byte.1.toNat ≤ 5))) S) v l := hv.other hvp _
    refine appRows (ie := ti5) rfl u8C_lenR (by decide) hv2 s.byte.1 rfl (by omega) (fun bb cap L q1 q2 q3 q4 => ?_)
    have hbp : bb ≠ p := by
      rcases q1 with q1 | ⟨c0, q1⟩
      · exact q1.ne_obj (rdO_get _ _ _)
      · exact hvp bb _ _ q1
    refine ⟨⟨by omega, by omega⟩, ?_⟩
    obtain ⟨k, rfl⟩ : ∃ k : Nat, m = k + 1 := ⟨(m - 1).toNat, by omega⟩
    have e1 : ((k : Int) + 1).toNat = k + 1 := by omega
    rw [e1, tilesGo_ok h2] at hg
    refine ⟨((k : Int) + 1 - 1, s.byte.2.must (decide (s.byte.1.toNat ≤ 5)), l ++ [s.byte.1], _), ?_, ⟨fun _ => ?_, ?_, ?_, .inr ⟨bb, cap, L, rfl, setObj_self _ _ _, q2, q3, q4⟩, fun b2 n c e => ?_⟩, ⟨LV.le_refl _, LV.le_refl _, LV.le_refl _, LV.le_refl _, LV.le_refl _, trivial⟩, ⟨rfl, rfl, trivial⟩⟩
    · show ((k : Int) + 1 - 1).toNat < ((k : Int) + 1).toNat
      omega
    · simp; omega
    · show Rd.tilesGo ((k : Int) + 1 - 1).toNat _ _ = _
      have e2 : ((k : Int) + 1 - 1).toNat = k := by omega
      rw [e2]
      exact hg
    · rw [setObj_ne (Ne.symm hbp)]; exact rdO_get _ _ _
    · cases e; exact hbp
  · have hT : mapTiles b = (l, s) := by
      rw [← hg]
      by_cases h2 : s.e = 0
      · have : m.toNat = 0 := by omega
        rw [this]; rfl
      · exact tilesGo_bad h2
    rw [hT] at lt
    have hS : mapSum b = (s.same (eightL (fnvSum fnvStart (b.take (b.length - s.b.length))))).fin := by unfold mapSum; rw [hT]
    have hP : mapParse b = if (s.same (eightL (fnvSum fnvStart (b.take (b.length - s.b.length))))).fin.e ≠ 0 then (⟨0, 0, []⟩, (s.same (eightL (fnvSum fnvStart (b.take (b.length - s.b.length))))).fin.e) else (⟨(mapHead b).1, (mapSide b).1, l⟩, 0) := by
      unfold mapParse; rw [hT, hS]
    first | refine bcd (fun h1 => optK_intro _ hpo (bceq (fun h2 => absurd ⟨h1, h2⟩ hx) (fun _ => ?_))) (fun h1 => ?_) | refine bcd (fun h1 => optR (optK_intro _ hpo (bceq (fun h2 => absurd ⟨h1, h2⟩ hx) (fun _ => ?_)))) (fun h1 => ?_) | refine bcd (fun h1 => optR (optR (optK_intro _ hpo (bceq (fun h2 => absurd ⟨h1, h2⟩ hx) (fun _ => ?_))))) (fun h1 => ?_)
    all_goals
      try dsimp only at lt
      refine ADraw.of_sched infoOK (by rfl) (by rfl) sch28_12 (by rfl) ?_
      first | refine optK_intro _ (hpo) ?_ | refine optR (optK_intro _ (hpo) ?_) | refine optR (optR (optK_intro _ (hpo) ?_))
      refine ⟨by rw [rws_len, rws_len]; exact ⟨by omega, by omega⟩, ?_⟩
      refine ⟨0, b.length - s.b.length, rfl, by rw [rws_len, rws_len]; show ((b.length : Int) - (s.b.length : Int)) = ((b.length - s.b.length : Nat) : Int); omega, by omega, by rw [rws_len]; omega, ?_⟩
      refine ⟨startSum_spec _ _ ⟨⟨rfl, optR (optR (optR (optK_intro _ hpo rfl))), rfl, trivial⟩, ?_⟩, trivial⟩
      refine ⟨fnvSumV (l := b.take (b.length - s.b.length)) _ (by rw [rws_take]; exact AV.le_refl _) (by rw [List.length_take]; omega) ⟨trivial, ?_⟩, trivial⟩
      refine ⟨fnvBytes_spec _ _ _ ⟨trivial, ?_⟩, trivial⟩
      refine ⟨onRd hpo (same_spec p s S (eightL (fnvSum fnvStart (b.take (b.length - s.b.length)))) (AV.le_refl _) (by rw [eightL_len]; omega) _ ⟨trivial, ?_⟩), trivial⟩
      refine fin_spec p _ S _ ?_
      have hv3 : ∀ z : Rd, RowsO 1 u8C (rdO p z S) v l := fun z => hv.other hvp _
      have hz : (s.same (eightL (fnvSum fnvStart (b.take (b.length - s.b.length))))).fin = (s.same (eightL (fnvSum fnvStart (b.take (b.length - s.b.length))))).fin := rfl
      generalize (s.same (eightL (fnvSum fnvStart (b.take (b.length - s.b.length))))).fin = z at hP ⊢
      first | refine optK_intro _ (rdO_get p z S) ?_ | refine optR (optK_intro _ (rdO_get p z S) ?_) | refine optR (optR (optK_intro _ (rdO_get p z S) ?_))
      refine bcne (fun h3 => ?_) (fun h3 => ?_)
      · rw [if_pos h3] at hP
        refine ADraw.of_sched infoOK (by rfl) (by rfl) sch28_15 (by rfl) ?_
        first | refine optK_intro _ (rdO_get p z S) ?_ | refine optR (optK_intro _ (rdO_get p z S) ?_) | refine optR (optR (optK_intro _ (rdO_get p z S) ?_))
        refine ⟨⟨(by repeat (first | exact trivial | refine ⟨rfl, ?_⟩ | refine ⟨optR (optR (optR (optK_intro _ (setObj_self _ _ _) rfl))), ?_⟩)), ?_⟩, trivial⟩
        refine ⟨⟨trivial, ?_⟩, trivial⟩
        refine ret (h _ _ ⟨nil, ?_, ?_⟩)
        · rw [hP]; exact .inl ⟨rfl, rfl⟩
        · rw [hP]; rfl
      · rw [if_neg (by simpa using h3)] at hP
        refine storeK_boxL (v := .agg [int (mapHead b).1, int (mapSide b).1, v]) (xs := [int (mapHead b).1, int (mapSide b).1, v]) (by rfl) (by simp only [List.all_cons, List.all_nil, (rows_some hv).2]; rfl) (by rfl) (by rfl) (by simp) ?_
        refine ret (h _ _ ⟨v, ?_, ?_⟩)
        · rw [hP]; exact hv3 z
        · rw [hP]; rfl
end Go.Proofs
namespace Go.Proofs
open Go Go.V
set_option linter.unusedVariables false

/-- The same, with the tiles in memory of their own. -/
structure PS3 (S : Store) (p q : Nat) (s : Rd) (c5 : List AV) (vT : AV) (T : List UInt8) (vB : AV) (B : List Bld) (vU : AV) (U : List Unt) : Prop where
  P : PSt S p q s (c5 ++ [vT]) vB B vU U
  rT : RowsO 1 u8C S vT T
  nT : ∀ b n c, vT = .s (.slice (some ⟨b, 0, none⟩) n c) → b ≠ p ∧ b ≠ q
  nTB : ∀ b n c b' n' c', vT = .s (.slice (some ⟨b, 0, none⟩) n c) → vB = .s (.slice (some ⟨b', 0, none⟩) n' c') → b ≠ b'
  nTU : ∀ b n c b' n' c', vT = .s (.slice (some ⟨b, 0, none⟩) n c) → vU = .s (.slice (some ⟨b', 0, none⟩) n' c') → b ≠ b'

section
variable {S : Store} {p q : Nat} {s : Rd} {c5 : List AV} {vT vB vU : AV} {T : List UInt8} {B : List Bld} {U : List Unt}
theorem PS3.hp (h : PS3 S p q s c5 vT T vB B vU U) : S.obj p = some (.cells [byts s.b, int s.e]) := h.P.hp
theorem PS3.hq (h : PS3 S p q s c5 vT T vB B vU U) : S.obj q = some (.cells ((c5 ++ [vT]) ++ [vB, vU])) := h.P.hq
theorem PS3.rB (h : PS3 S p q s c5 vT T vB B vU U) : RowsO 6 bldC S vB B := h.P.rB
theorem PS3.rU (h : PS3 S p q s c5 vT T vB B vU U) : RowsO 10 untC S vU U := h.P.rU
theorem PS3.rd (h : PS3 S p q s c5 vT T vB B vU U) (t : Rd) : PS3 (rdO p t S) p q t c5 vT T vB B vU U :=
  ⟨h.P.rd t, h.rT.other (fun b n c e => (h.nT b n c e).1) _, h.nT, h.nTB, h.nTU⟩
theorem PS3.add (h : PS3 S p q s c5 vT T vB B vU U) {x : Nat} (hx : Fresh S x) (y : AObj) : PS3 (S.setObj x y) p q s c5 vT T vB B vU U :=
  ⟨h.P.add hx y, h.rT.other (fun b n c e => by obtain ⟨y, hy⟩ := h.rT.blk e; exact Ne.symm (hx.ne_obj hy)) _, h.nT, h.nTB, h.nTU⟩
theorem PS3.appB (h : PS3 S p q s c5 vT T vB B vU U) {b cap : Nat} {L : List AV} {x : Bld} (hb : Fresh S b ∨ ∃ c0, vB = .s (.slice (some ⟨b, 0, none⟩) B.length c0))
    (h1 : (B ++ [x]).length ≤ cap) (h2 : cap * 6 ≤ (B ++ [x]).length * 6 + L.length) (h3 : cap ≤ 9223372036854775807) :
    PS3 ((S.setObj b (.cells ((rws bldC (B ++ [x])).flatten ++ L))).setObj q (.cells ((c5 ++ [vT]) ++ [.s (.slice (some ⟨b, 0, none⟩) (B ++ [x]).length cap), vU]))) p q s c5 vT T (.s (.slice (some ⟨b, 0, none⟩) (B ++ [x]).length cap)) (B ++ [x]) vU U := by
  have hbT : ∀ b' n c, vT = .s (.slice (some ⟨b', 0, none⟩) n c) → b' ≠ b := fun b' n c e => by
    rcases hb with hb | ⟨c0, hb⟩
    · obtain ⟨y, hy⟩ := h.rT.blk e; exact Ne.symm (hb.ne_obj hy)
    · exact h.nTB _ _ _ _ _ _ e hb
  exact ⟨h.P.appB hb h1 h2 h3, (h.rT.other hbT _).other (fun b n c e => (h.nT b n c e).2) _, h.nT, fun b1 n1 c1 b2 n2 c2 e1 e2 => by cases e2; exact hbT _ _ _ e1, h.nTU⟩
theorem PS3.appU (h : PS3 S p q s c5 vT T vB B vU U) {b cap : Nat} {L : List AV} {x : Unt} (hb : Fresh S b ∨ ∃ c0, vU = .s (.slice (some ⟨b, 0, none⟩) U.length c0))
    (h1 : (U ++ [x]).length ≤ cap) (h2 : cap * 10 ≤ (U ++ [x]).length * 10 + L.length) (h3 : cap ≤ 9223372036854775807) :
    PS3 ((S.setObj b (.cells ((rws untC (U ++ [x])).flatten ++ L))).setObj q (.cells ((c5 ++ [vT]) ++ [vB, .s (.slice (some ⟨b, 0, none⟩) (U ++ [x]).length cap)]))) p q s c5 vT T vB B (.s (.slice (some ⟨b, 0, none⟩) (U ++ [x]).length cap)) (U ++ [x]) := by
  have hbT : ∀ b' n c, vT = .s (.slice (some ⟨b', 0, none⟩) n c) → b' ≠ b := fun b' n c e => by
    rcases hb with hb | ⟨c0, hb⟩
    · obtain ⟨y, hy⟩ := h.rT.blk e; exact Ne.symm (hb.ne_obj hy)
    · exact h.nTU _ _ _ _ _ _ e hb
  exact ⟨h.P.appU hb h1 h2 h3, (h.rT.other hbT _).other (fun b n c e => (h.nT b n c e).2) _, h.nT, h.nTB, fun b1 n1 c1 b2 n2 c2 e1 e2 => by cases e2; exact hbT _ _ _ e1⟩
end

theorem disj_emptyL (st : Store) : Disj Store.empty st := fun b hb => (hb.elim (fun h => h rfl) (fun h => h rfl) : False).elim
theorem mapR_spec (b : List UInt8) (hb : b.length ≤ 1048576) (st : Store) (R : AV → Store → Prop) (h : ∀ v N, RowsO 1 u8C N v (mapParse b).1.T → Disj N st → R (.tup [.agg [int (mapParse b).1.W, int (mapParse b).1.H, v], int (mapParse b).2]) (N.un st)) : ACalls Tryz.prog 28 [byts b] st R := by
  rw [← empty_un st]
  exact ACalls.frame (disj_emptyL st) (mapR_key b hb (fun r S => MapQ b r S) fun r S h => h) fun r S ⟨v, hv, e⟩ hd => e ▸ h v S hv hd

def wldV3 (w : Wld) (vT vB vU : AV) : List AV := [int w.tick, int w.players, int w.next, int w.G.W, int w.G.H, vT, vB, vU]
/-- A world in memory of its own. -/
structure Own3 (S : Store) (w : Wld) (vT vB vU : AV) : Prop where
  rT : RowsO 1 u8C S vT w.G.T
  rB : RowsO 6 bldC S vB w.B
  rU : RowsO 10 untC S vU w.U
  nTB : ∀ b n c b' n' c', vT = .s (.slice (some ⟨b, 0, none⟩) n c) → vB = .s (.slice (some ⟨b', 0, none⟩) n' c') → b ≠ b'
  nTU : ∀ b n c b' n' c', vT = .s (.slice (some ⟨b, 0, none⟩) n c) → vU = .s (.slice (some ⟨b', 0, none⟩) n' c') → b ≠ b'
  nBU : ∀ b n c b' n' c', vB = .s (.slice (some ⟨b, 0, none⟩) n c) → vU = .s (.slice (some ⟨b', 0, none⟩) n' c') → b ≠ b'

theorem u8C_s (c : UInt8) : ∀ y ∈ u8C c, ∃ x, y = AV.s x ∧ oneCell x = true := by
  intro y hy
  simp [u8C] at hy
  exact ⟨_, hy, rfl⟩

theorem own_borrow {st : Store} {w : Wld} {vT vB vU : AV} (h : Own3 st w vT vB vU) {Oth M : Nat → Nat → Prop} {W : World} (sto : StoreOK st Oth M W) {x : Value} (hx : VRel W (fun b o => M b o ∨ Oth b o) (.agg (wldV3 w vT vB vU)) x) :
    VRel W (fun b o => (M b o ∨ Oth b o) ∧ st.obj b = none) (.agg (wldC w)) x := by
  cases hx with
  | agg _ c hl hc =>
    refine .agg _ c hl fun i x y hx hy => ?_
    match i with
    | 0 => simp only [wldC, List.getElem?_cons_zero, Option.some.injEq] at hx; subst hx; exact mono_borrow (hc 0 _ y rfl hy)
    | 1 => simp only [wldC, List.getElem?_cons_succ, List.getElem?_cons_zero, Option.some.injEq] at hx; subst hx; exact mono_borrow (hc 1 _ y rfl hy)
    | 2 => simp only [wldC, List.getElem?_cons_succ, List.getElem?_cons_zero, Option.some.injEq] at hx; subst hx; exact mono_borrow (hc 2 _ y rfl hy)
    | 3 => simp only [wldC, List.getElem?_cons_succ, List.getElem?_cons_zero, Option.some.injEq] at hx; subst hx; exact mono_borrow (hc 3 _ y rfl hy)
    | 4 => simp only [wldC, List.getElem?_cons_succ, List.getElem?_cons_zero, Option.some.injEq] at hx; subst hx; exact mono_borrow (hc 4 _ y rfl hy)
    | 5 => simp only [wldC, List.getElem?_cons_succ, List.getElem?_cons_zero, Option.some.injEq] at hx; subst hx; exact h.rT.borrow u8C_lenR u8C_s sto (hc 5 _ y rfl hy)
    | 6 => simp only [wldC, List.getElem?_cons_succ, List.getElem?_cons_zero, Option.some.injEq] at hx; subst hx; exact h.rB.borrow bldC_len bldC_s sto (hc 6 _ y rfl hy)
    | 7 => simp only [wldC, List.getElem?_cons_succ, List.getElem?_cons_zero, Option.some.injEq] at hx; subst hx; exact h.rU.borrow untC_len untC_s sto (hc 7 _ y rfl hy)
    | i + 8 => simp [wldC] at hx

theorem mayO_spec {g : Store} {w : Wld} {vT vB vU : AV} (ho : Own3 g w vT vB vU) (hw : w.fits) (hn : ∀ u ∈ w.U, u.pos.ok) (R : AV → Store → Prop) (h : ∀ z : Bool, (z = true ↔ mayP w) → R (V.bool z) g) : ACalls Tryz.prog 36 [.agg (wldV3 w vT vB vU)] g R :=
  ACalls.read (ys := [.agg (wldC w)]) (Q := fun r => ∃ z : Bool, r = V.bool z ∧ (z = true ↔ mayP w)) (fun Oth M W vs sto hr => by
    obtain ⟨x, rfl, h1⟩ := reads1 hr
    exact Reads.cons (own_borrow ho sto h1) Reads.nil) (may_spec w hw hn _ _ fun z hz => ⟨z, rfl, hz⟩) (fun r ⟨z, e, _⟩ => e ▸ flat_s _) (fun r ⟨z, e, hz⟩ => e ▸ h z hz)

/-- What Parse hands back: a world in memory of its own. -/
def Post3 (b : List UInt8) (r : AV) (S : Store) : Prop :=
  (imgE b ≠ 0 ∧ r = .tup [.agg (z6 ++ [nil, nil]), int (imgE b)]) ∨ (imgE b = 0 ∧ ¬ mayP (imgW b) ∧ r = .tup [.agg (z6 ++ [nil, nil]), int 1]) ∨
  (imgE b = 0 ∧ mayP (imgW b) ∧ ∃ vT vB vU, Own3 S (imgW b) vT vB vU ∧ r = .tup [.agg (wldV3 (imgW b) vT vB vU), int 0])

set_option maxHeartbeats 4000000 in
set_option maxRecDepth 20000 in
theorem iparse3_key (b : List UInt8) (hb : b.length ≤ 1048576) (R : AV → Store → Prop) (fin : ∀ r S, Post3 b r S → R r S) : ACalls Tryz.prog 11 [byts b] Store.empty R := by
  have eS : imgS b = (cntP 4096 untP_ (cntP 256 bldP_ (gndR (anyP (anyP (anyP (Rd.same ⟨b, 0⟩ [84, 87])).2).2).2).2).2).2 := rfl
  have eW : imgW b = ⟨(anyP (Rd.same ⟨b, 0⟩ [84, 87])).1, (anyP (anyP (Rd.same ⟨b, 0⟩ [84, 87])).2).1, (anyP (anyP (anyP (Rd.same ⟨b, 0⟩ [84, 87])).2).2).1, (gndR (anyP (anyP (anyP (Rd.same ⟨b, 0⟩ [84, 87])).2).2).2).1,
    (cntP 256 bldP_ (gndR (anyP (anyP (anyP (Rd.same ⟨b, 0⟩ [84, 87])).2).2).2).2).1, (cntP 4096 untP_ (cntP 256 bldP_ (gndR (anyP (anyP (anyP (Rd.same ⟨b, 0⟩ [84, 87])).2).2).2).2).2).1⟩ := rfl
  refine ACalls.of_awp (c := cfg 132 [4, 10, 14, 16] []) infoOK Tryz.func11 (by rfl) (by rfl) (by rfl) (by rfl) ?_
  refine AWp.seq (AWp.of_vc infoOK ?_)
  refine AWp.seq (AWp.of_vc infoOK ?_)
  intro q hq
  refine AWp.seq (AWp.of_vc infoOK ?_)
  intro p hp
  have hqp : q ≠ p := fun e => by have := hp.1; rw [← e, setObj_self] at this; cases this
  change AWp _ _ _ _ _ (rdO p ⟨b, 0⟩ (Store.empty.setObj q (.cells (z6 ++ [nil, nil]))))
  have P0 : PSt (rdO p ⟨b, 0⟩ (Store.empty.setObj q (.cells (z6 ++ [nil, nil])))) p q ⟨b, 0⟩ z6 nil [] nil [] :=
    ⟨rdO_get _ _ _, by rw [rdO_ne hqp, setObj_self], hqp, .inl ⟨rfl, rfl⟩, .inl ⟨rfl, rfl⟩, fun _ _ _ e => (by cases e), fun _ _ _ e => (by cases e), fun _ _ _ _ _ _ e => (by cases e)⟩
  clear hp hq
  generalize rdO p ⟨b, 0⟩ (Store.empty.setObj q (.cells (z6 ++ [nil, nil]))) = S0 at P0 ⊢
  refine AWp.seq (AWp.of_vc infoOK ?_)
  refine ⟨by decide, fun tk htk => ?_⟩
  refine optR (optR (optR (optK_intro _ (setTok_self _ _ _) ?_)))
  refine ACalls.drop (st' := S0) (has_tok htk.2) ?_
  refine onRd P0.hp (same_spec p ⟨b, 0⟩ S0 [84, 87] (AV.le_tok _ _ _) (by simp) _ ?_)
  have l1 := same_len ⟨b, 0⟩ [84, 87]
  dsimp only at l1
  generalize Rd.same ⟨b, 0⟩ [84, 87] = s1 at *
  have P1 := P0.rd s1
  generalize rdO p s1 S0 = S1 at P1 ⊢
  clear P0
  have e3 : ∀ l : List AV, numsGo [0, 1, 2] s1 l = ((anyP (anyP (anyP s1).2).2).2, splice (splice (splice l 0 [int (anyP s1).1]) 1 [int (anyP (anyP s1).2).1]) 2 [int (anyP (anyP (anyP s1).2).2).1]) := fun l => rfl
  have l2 := any_len s1
  have l3 := any_len (anyP s1).2
  have l4 := any_len (anyP (anyP s1).2).2
  generalize (anyP s1).1 = a1 at *
  generalize (anyP s1).2 = s2 at *
  generalize (anyP s2).1 = a2 at *
  generalize (anyP s2).2 = s3 at *
  generalize (anyP s3).1 = a3 at *
  generalize (anyP s3).2 = s4 at *
  refine AWp.seq (AWp.of_vc infoOK ?_)
  refine ⟨by decide, ?_⟩
  refine numbers_spec p q hqp s1 S1 (z6 ++ [nil, nil]) [0, 1, 2] (by omega) (by decide) (by decide) P1.hp P1.hq _ ?_
  rw [e3]
  dsimp only
  have c3 : splice (splice (splice (z6 ++ [nil, nil]) 0 [int a1]) 1 [int a2]) 2 [int a3] = [int a1, int a2, int a3, int 0, int 0, nil] ++ [nil, nil] := rfl
  rw [c3]
  have P2 := (P1.cell [int a1, int a2, int a3, int 0, int 0, nil]).rd s4
  generalize rdO p s4 (S1.setObj q _) = S2 at P2 ⊢
  clear P1
  have lg := gnd_PL.len s4
  have gbad : s4.raw.2.e ≠ 0 → gndR s4 = (⟨0, 0, []⟩, s4.raw.2) := fun he => by unfold gndR; rw [if_neg he]
  have gok : s4.raw.2.e = 0 → gndR s4 = ((mapParse s4.raw.1).1, s4.raw.2.must (decide ((mapParse s4.raw.1).2 = 0))) := fun he => by unfold gndR; rw [if_pos he]
  have hrl : s4.raw.1.length ≤ 1048576 := by
    unfold Rd.raw
    split
    · simp
    · simp only
      unfold getRaw
      split
      · simp
      · split
        · simp
        · split
          · simp
          · simp only [List.length_take]; omega
  generalize gndR s4 = g at *
  refine AWp.seq (AWp.of_vc infoOK ?_)
  refine onRd P2.hp (rawr_spec p s4 S2 (by omega) _ ?_)
  have P3 := P2.rd s4.raw.2
  generalize rdO p s4.raw.2 S2 = S3 at P3 ⊢
  clear P2
  refine AWp.meetA (σ := Store × AV) ⟨fun _ => [(0, .av (byts b)), (2, .bx 2 0), (4, .av (ptr q)), (5, .av (ptr p))], fun _ => [(2, z6 ++ [nil, nil])], fun x S => S = x.1 ∧ PS3 x.1 p q g.2 [int a1, int a2, int a3, int g.1.W, int g.1.H] x.2 g.1.T nil [] nil []⟩ ?_ ?_
  · refine AWp.of_vc infoOK ?_
    refine optK_intro _ P3.hp ?_
    refine bceq (fun c1 => ?_) (fun c1 => ?_)
    rotate_left
    · have eg := gbad c1
      subst eg
      exact ⟨(S3, nil), ⟨rfl, ⟨P3, .inl ⟨rfl, rfl⟩, fun _ _ _ e => (by cases e), fun _ _ _ _ _ _ e => (by cases e), fun _ _ _ _ _ _ e => (by cases e)⟩⟩, ⟨LV.le_refl _, LV.le_refl _, LV.le_refl _, LV.le_refl _, trivial⟩, ⟨rfl, trivial⟩⟩
    have eg := gok c1
    refine mapR_spec s4.raw.1 hrl _ _ (fun vm N hvm hdN => ?_)
    have P3' : PSt (N.un S3) p q s4.raw.2 [int a1, int a2, int a3, int 0, int 0, nil] nil [] nil [] :=
      ⟨un_r P3.hp, un_r P3.hq, P3.ne, .inl ⟨rfl, rfl⟩, .inl ⟨rfl, rfl⟩, fun _ _ _ e => (by cases e), fun _ _ _ e => (by cases e), fun _ _ _ _ _ _ e => (by cases e)⟩
    have hvmN := hvm.unL hdN
    have hvmp : ∀ bb n c, vm = .s (.slice (some ⟨bb, 0, none⟩) n c) → bb ≠ p ∧ bb ≠ q := fun bb n c e => by
      obtain ⟨y, hy⟩ := hvm.blk e
      exact ⟨fun e2 => hdN bb (has_obj hy) (e2 ▸ has_obj P3.hp), fun e2 => hdN bb (has_obj hy) (e2 ▸ has_obj P3.hq)⟩
    clear hdN hvm P3
    generalize N.un S3 = S3 at P3' hvmN ⊢
    generalize (mapParse s4.raw.1).1 = m at *
    generalize (mapParse s4.raw.1).2 = me at *
    have hvall : ([int m.W, int m.H, vm]).all AV.one = true := by
      show (true && (true && (vm.one && true))) = true
      rw [(rows_some hvmN).2]; rfl
    refine storeK_boxL (i := ti26) (v := .agg [int m.W, int m.H, vm]) (xs := [int m.W, int m.H, vm]) (b := 7) (o := 0) (l := [int 0, int 0, nil]) rfl hvall rfl (by rfl) (by simp) ?_
    refine storeK_objL (i := ti26) (v := .agg [int m.W, int m.H, vm]) (xs := [int m.W, int m.H, vm]) (b := q) (o := 3) (l := [int a1, int a2, int a3, int 0, int 0, nil] ++ [nil, nil]) rfl hvall rfl P3'.hq (by show 3 + 3 ≤ 8; decide) ?_
    have c4 : splice ([int a1, int a2, int a3, int 0, int 0, nil] ++ [nil, nil]) 3 [int m.W, int m.H, vm] = [int a1, int a2, int a3, int m.W, int m.H, vm] ++ [nil, nil] := rfl
    rw [c4]
    have P4 : PS3 (S3.setObj q (.cells ([int a1, int a2, int a3, int m.W, int m.H, vm] ++ [nil, nil]))) p q s4.raw.2 [int a1, int a2, int a3, int m.W, int m.H] vm m.T nil [] nil [] :=
      ⟨P3'.cell [int a1, int a2, int a3, int m.W, int m.H, vm], hvmN.other (fun b n c e => (hvmp b n c e).2) _, hvmp, fun _ _ _ _ _ _ _ e => (by cases e), fun _ _ _ _ _ _ _ e => (by cases e)⟩
    generalize S3.setObj q _ = S4 at P4 ⊢
    refine onRd P4.hp (must_spec p s4.raw.2 S4 (me == 0) _ ?_)
    have e0 : (me == 0) = decide (me = 0) := beqD _ _
    rw [e0]
    have P5 := P4.rd (s4.raw.2.must (decide (me = 0)))
    generalize rdO p (s4.raw.2.must (decide (me = 0))) S4 = S5 at P5 ⊢
    have eg1 : g.1 = m := by rw [eg]
    have eg2 : g.2 = s4.raw.2.must (decide (me = 0)) := by rw [eg]
    rw [← eg2, ← eg1] at P5
    exact ⟨(S5, vm), ⟨rfl, P5⟩, ⟨LV.le_refl _, LV.le_refl _, LV.le_refl _, LV.le_refl _, trivial⟩, ⟨rfl, trivial⟩⟩
  rintro ⟨S6, vT⟩ S6' ⟨rfl, P6⟩
  dsimp only at P6 ⊢
  clear gbad gok hrl P3
  have lB := (cnt_PL bld_PL (hi := 256) (by decide)).len g.2
  have hBn := num_I64 g.2 0 256
  have hBe : (g.2.num 0 256).2.e = 0 → (g.2.num 0 256).1 ≤ 256 := fun h => (num_put h).2.2.2
  have lBn := num_len g.2 0 256
  have eB : Rd.repGo bldP_ (g.2.num 0 256).1.toNat (g.2.num 0 256).2 [] = cntP 256 bldP_ g.2 := rfl
  generalize cntP 256 bldP_ g.2 = cB at *
  refine AWp.meetA (σ := Store × AV) ⟨fun _ => [(0, .av (byts b)), (2, .bx 2 0), (4, .av (ptr q)), (5, .av (ptr p))], fun _ => [(2, z6 ++ [nil, nil])], fun x S => S = x.1 ∧ PS3 x.1 p q cB.2 [int a1, int a2, int a3, int g.1.W, int g.1.H] vT g.1.T x.2 cB.1 nil []⟩ ?_ ?_
  · refine AWp.seq (AWp.of_vc infoOK ?_)
    refine onRd P6.hp (num_spec p g.2 _ 0 256 (by omega) _ ?_)
    have P7 := P6.rd (g.2.num 0 256).2
    generalize rdO p (g.2.num 0 256).2 _ = S7 at P7 ⊢
    clear P6
    generalize (g.2.num 0 256).1 = n7 at *
    generalize (g.2.num 0 256).2 = s7 at *
    refine AWp.of_vc infoOK ?_
    refine AWp.loop (σ := Int × Store × Rd × AV × List Bld) ⟨fun x => [(0, .av (byts b)), (2, .bx 2 0), (4, .av (ptr q)), (5, .av (ptr p)), (9, .av (int x.1))], fun _ => [(2, z6 ++ [nil, nil])],
      fun x S => S = x.2.1 ∧ PS3 x.2.1 p q x.2.2.1 [int a1, int a2, int a3, int g.1.W, int g.1.H] vT g.1.T x.2.2.2.1 x.2.2.2.2 nil [] ∧ Rd.repGo bldP_ x.1.toNat x.2.2.1 x.2.2.2.2 = cB ∧ (0 ≤ x.1 ∧ x.1 < 9223372036854775808) ∧ x.2.2.1.b.length ≤ b.length ∧ (x.2.2.1.e = 0 → x.1 + x.2.2.2.2.length ≤ 256), fun x => x.1.toNat⟩ infoOK ?_ ?_
    · exact ⟨(n7, S7, s7, nil, []), trivial, ⟨rfl, P7, eB, hBn, by dsimp only; omega, fun h => by simpa using hBe h⟩, ⟨LV.le_refl _, LV.le_refl _, LV.le_refl _, LV.le_refl _, LV.le_refl _, trivial⟩, ⟨rfl, trivial⟩⟩
    clear P7 hBn hBe eB lBn
    rintro ⟨n, S, s, vB, l⟩ S' ⟨rfl, P, hg, hn, hsl, hne⟩
    dsimp only at P hg hn hsl hne ⊢
    have stop : (n = 0 ∨ s.e ≠ 0) → (l, s) = cB := fun hh => by
      rw [← hg]
      rcases hh with rfl | hh
      · rfl
      · rw [repGo_bad hh]
    refine bcd (fun c1 => ?_) (fun c1 => ?_)
    rotate_left
    · have := stop (.inl (by omega))
      subst this
      exact ⟨(_, vB), ⟨rfl, P⟩, ⟨LV.le_refl _, LV.le_refl _, LV.le_refl _, LV.le_refl _, trivial⟩, ⟨rfl, trivial⟩⟩
    refine optK_intro _ P.hp ?_
    refine bceq (fun c2 => ?_) (fun c2 => ?_)
    rotate_left
    · have := stop (.inr c2)
      subst this
      exact ⟨(_, vB), ⟨rfl, P⟩, ⟨LV.le_refl _, LV.le_refl _, LV.le_refl _, LV.le_refl _, trivial⟩, ⟨rfl, trivial⟩⟩
    have hle := hne c2
    obtain ⟨k, rfl⟩ : ∃ k : Nat, n = (k : Int) + 1 := ⟨(n - 1).toNat, by omega⟩
    have e1 : ((k : Int) + 1).toNat = k + 1 := by omega
    rw [e1, repGo_ok c2] at hg
    intro x hx
    have hxp := hx.ne_obj P.hp
    refine ⟨by decide, ?_⟩
    have lx := bld_len s
    have P2 := P.add hx (.cells [int 0, int 0, int 0, int 0, int 0, int 0])
    refine numbers_spec p x hxp s _ [int 0, int 0, int 0, int 0, int 0, int 0] [0, 1, 2, 3, 4, 5] (by omega) (by decide) (by decide) P2.hp (setObj_self _ _ _) _ ?_
    rw [bld_go, setObj_setObj]
    dsimp only
    have P3 := (P.add hx (.cells (bldC (bldP_ s).1))).rd (bldP_ s).2
    have hxo : (rdO p (bldP_ s).2 (S'.setObj x (.cells (bldC (bldP_ s).1)))).obj x = some (.cells (bldC (bldP_ s).1)) := by rw [rdO_ne hxp, setObj_self]
    generalize rdO p (bldP_ s).2 (S'.setObj x (.cells (bldC (bldP_ s).1))) = S3 at P3 hxo ⊢
    clear P2
    generalize (bldP_ s).1 = bx at *
    generalize (bldP_ s).2 = sx at *
    refine optK_intro _ P3.hq ?_
    refine optK_intro _ hxo ?_
    refine ⟨by decide, ?_⟩
    refine appRows (ie := ti66) rfl bldC_len (by decide) P3.rB bx rfl (by omega) (fun bb cap L q1 q2 q3 q4 => ?_)
    have hbq : bb ≠ q := by
      rcases q1 with q1 | ⟨c0, q1⟩
      · exact q1.ne_obj P3.hq
      · exact (P3.P.nB bb _ _ q1).2
    refine storeK_obj (i := ti27) (v := .s (.slice (some ⟨bb, 0, none⟩) (l ++ [bx]).length cap)) (b := q) (o := 6) (l := [int a1, int a2, int a3, int g.1.W, int g.1.H, vT] ++ [vB, nil]) rfl rfl rfl (by rw [setObj_ne (Ne.symm hbq)]; exact P3.hq) (by simp) ?_
    have P4 : PS3 ((S3.setObj bb (.cells ((rws bldC (l ++ [bx])).flatten ++ L))).setObj q (.cells ([int a1, int a2, int a3, int g.1.W, int g.1.H, vT] ++ [.s (.slice (some ⟨bb, 0, none⟩) (l ++ [bx]).length cap), nil]))) p q sx [int a1, int a2, int a3, int g.1.W, int g.1.H] vT g.1.T (.s (.slice (some ⟨bb, 0, none⟩) (l ++ [bx]).length cap)) (l ++ [bx]) nil [] := P3.appB q1 q2 q3 q4
    have c6 : splice ([int a1, int a2, int a3, int g.1.W, int g.1.H, vT] ++ [vB, nil]) 6 [.s (.slice (some ⟨bb, 0, none⟩) (l ++ [bx]).length cap)] = [int a1, int a2, int a3, int g.1.W, int g.1.H, vT] ++ [.s (.slice (some ⟨bb, 0, none⟩) (l ++ [bx]).length cap), nil] := rfl
    rw [c6]
    generalize (S3.setObj bb _).setObj q _ = S4 at P4 ⊢
    refine in64 (by omega) ?_
    refine ⟨((k : Int) + 1 - 1, S4, sx, _, l ++ [bx]), ?_, ⟨rfl, P4, ?_, by dsimp only; omega, by dsimp only; omega, fun _ => ?_⟩, ⟨LV.le_refl _, LV.le_refl _, LV.le_refl _, LV.le_refl _, LV.le_refl _, trivial⟩, ⟨rfl, trivial⟩⟩
    · show ((k : Int) + 1 - 1).toNat < ((k : Int) + 1).toNat
      omega
    · dsimp only
      rw [show ((k : Int) + 1 - 1).toNat = k by omega]
      exact hg
    · dsimp only
      rw [List.length_append, List.length_singleton]
      push_cast
      omega
  rintro ⟨S8, vB⟩ S8' ⟨rfl, P8⟩
  dsimp only at P8 ⊢
  have lU := (cnt_PL unt_PL (hi := 4096) (by decide)).len cB.2
  have hUn := num_I64 cB.2 0 4096
  have hUe : (cB.2.num 0 4096).2.e = 0 → (cB.2.num 0 4096).1 ≤ 4096 := fun h => (num_put h).2.2.2
  have lUn := num_len cB.2 0 4096
  have eU : Rd.repGo untP_ (cB.2.num 0 4096).1.toNat (cB.2.num 0 4096).2 [] = cntP 4096 untP_ cB.2 := rfl
  generalize cntP 4096 untP_ cB.2 = cU at *
  refine AWp.meetA (σ := Store × AV) ⟨fun _ => [(0, .av (byts b)), (2, .bx 2 0), (4, .av (ptr q)), (5, .av (ptr p))], fun _ => [(2, z6 ++ [nil, nil])], fun x S => S = x.1 ∧ PS3 x.1 p q cU.2 [int a1, int a2, int a3, int g.1.W, int g.1.H] vT g.1.T vB cB.1 x.2 cU.1⟩ ?_ ?_
  · refine AWp.seq (AWp.of_vc infoOK ?_)
    refine onRd P8.hp (num_spec p cB.2 _ 0 4096 (by omega) _ ?_)
    have P9 := P8.rd (cB.2.num 0 4096).2
    generalize rdO p (cB.2.num 0 4096).2 _ = S9 at P9 ⊢
    clear P8
    generalize (cB.2.num 0 4096).1 = n9 at *
    generalize (cB.2.num 0 4096).2 = s9 at *
    refine AWp.of_vc infoOK ?_
    refine AWp.loop (σ := Int × Store × Rd × AV × List Unt) ⟨fun x => [(0, .av (byts b)), (2, .bx 2 0), (4, .av (ptr q)), (5, .av (ptr p)), (11, .av (int x.1))], fun _ => [(2, z6 ++ [nil, nil])],
      fun x S => S = x.2.1 ∧ PS3 x.2.1 p q x.2.2.1 [int a1, int a2, int a3, int g.1.W, int g.1.H] vT g.1.T vB cB.1 x.2.2.2.1 x.2.2.2.2 ∧ Rd.repGo untP_ x.1.toNat x.2.2.1 x.2.2.2.2 = cU ∧ (0 ≤ x.1 ∧ x.1 < 9223372036854775808) ∧ x.2.2.1.b.length ≤ b.length ∧ (x.2.2.1.e = 0 → x.1 + x.2.2.2.2.length ≤ 4096), fun x => x.1.toNat⟩ infoOK ?_ ?_
    · exact ⟨(n9, S9, s9, nil, []), trivial, ⟨rfl, P9, eU, hUn, by dsimp only; omega, fun h => by simpa using hUe h⟩, ⟨LV.le_refl _, LV.le_refl _, LV.le_refl _, LV.le_refl _, LV.le_refl _, trivial⟩, ⟨rfl, trivial⟩⟩
    clear P9 hUn hUe eU lUn
    rintro ⟨n, S, s, vU, l⟩ S' ⟨rfl, P, hg, hn, hsl, hne⟩
    dsimp only at P hg hn hsl hne ⊢
    have stop : (n = 0 ∨ s.e ≠ 0) → (l, s) = cU := fun hh => by
      rw [← hg]
      rcases hh with rfl | hh
      · rfl
      · rw [repGo_bad hh]
    refine bcd (fun c1 => ?_) (fun c1 => ?_)
    rotate_left
    · have := stop (.inl (by omega))
      subst this
      exact ⟨(_, vU), ⟨rfl, P⟩, ⟨LV.le_refl _, LV.le_refl _, LV.le_refl _, LV.le_refl _, trivial⟩, ⟨rfl, trivial⟩⟩
    refine optK_intro _ P.hp ?_
    refine bceq (fun c2 => ?_) (fun c2 => ?_)
    rotate_left
    · have := stop (.inr c2)
      subst this
      exact ⟨(_, vU), ⟨rfl, P⟩, ⟨LV.le_refl _, LV.le_refl _, LV.le_refl _, LV.le_refl _, trivial⟩, ⟨rfl, trivial⟩⟩
    have hle := hne c2
    obtain ⟨k, rfl⟩ : ∃ k : Nat, n = (k : Int) + 1 := ⟨(n - 1).toNat, by omega⟩
    have e1 : ((k : Int) + 1).toNat = k + 1 := by omega
    rw [e1, repGo_ok c2] at hg
    have lx := unt_len s
    have P3 := P.rd (untP_ s).2
    refine ADraw.of_sched infoOK (by rfl) (by rfl) sch11_19 (by rfl) ?_
    refine optK_intro (o := S'.obj q) _ P.hq ?_
    refine ⟨unit_spec p s S' (by omega) P.hp _ ⟨⟨optK_intro (o := (rdO p (untP_ s).2 S').obj q) _ P3.hq rfl, trivial⟩, ?_⟩, trivial⟩
    generalize rdO p (untP_ s).2 S' = S3 at P3 ⊢
    generalize (untP_ s).1 = bx at *
    generalize (untP_ s).2 = sx at *
    refine ⟨by decide, ?_⟩
    refine ⟨appRows (ie := ti70) rfl untC_len (by decide) P3.rU bx rfl (by omega) (fun bb cap L q1 q2 q3 q4 => ⟨trivial, ?_⟩), trivial⟩
    have hbq : bb ≠ q := by
      rcases q1 with q1 | ⟨c0, q1⟩
      · exact q1.ne_obj P3.hq
      · exact (P3.P.nU bb _ _ q1).2
    refine ⟨?_, trivial⟩
    refine optK_intro _ rfl (guardK_none rfl (vcOp_store (v := .s (.slice (some ⟨bb, 0, none⟩) (l ++ [bx]).length cap)) rfl rfl rfl rfl ?_))
    refine storeK_obj (i := ti28) (v := .s (.slice (some ⟨bb, 0, none⟩) (l ++ [bx]).length cap)) (b := q) (o := 7) (l := [int a1, int a2, int a3, int g.1.W, int g.1.H, vT] ++ [vB, vU]) rfl rfl rfl (by rw [setObj_ne (Ne.symm hbq)]; exact P3.hq) (by simp) ?_
    have P4 : PS3 ((S3.setObj bb (.cells ((rws untC (l ++ [bx])).flatten ++ L))).setObj q (.cells ([int a1, int a2, int a3, int g.1.W, int g.1.H, vT] ++ [vB, .s (.slice (some ⟨bb, 0, none⟩) (l ++ [bx]).length cap)]))) p q sx [int a1, int a2, int a3, int g.1.W, int g.1.H] vT g.1.T vB cB.1 (.s (.slice (some ⟨bb, 0, none⟩) (l ++ [bx]).length cap)) (l ++ [bx]) := P3.appU q1 q2 q3 q4
    have c6 : splice ([int a1, int a2, int a3, int g.1.W, int g.1.H, vT] ++ [vB, vU]) 7 [.s (.slice (some ⟨bb, 0, none⟩) (l ++ [bx]).length cap)] = [int a1, int a2, int a3, int g.1.W, int g.1.H, vT] ++ [vB, .s (.slice (some ⟨bb, 0, none⟩) (l ++ [bx]).length cap)] := rfl
    rw [c6]
    generalize (S3.setObj bb _).setObj q _ = S4 at P4 ⊢
    refine ⟨trivial, ?_⟩
    refine in64 (by omega) ?_
    refine ⟨((k : Int) + 1 - 1, S4, sx, _, l ++ [bx]), ?_, ⟨rfl, P4, ?_, by dsimp only; omega, by dsimp only; omega, fun _ => ?_⟩, ⟨LV.le_refl _, LV.le_refl _, LV.le_refl _, LV.le_refl _, LV.le_refl _, trivial⟩, ⟨rfl, trivial⟩⟩
    · show ((k : Int) + 1 - 1).toNat < ((k : Int) + 1).toNat
      omega
    · dsimp only
      rw [show ((k : Int) + 1 - 1).toNat = k by omega]
      exact hg
    · dsimp only
      rw [List.length_append, List.length_singleton]
      push_cast
      omega
  rintro ⟨SA, vU⟩ SA' ⟨rfl, PA⟩
  dsimp only at PA ⊢
  have hbl : cU.2.b.length ≤ b.length := by omega
  have hE : imgE b = ((cU.2.same (eightL (fnvSum fnvStart (b.take (b.length - cU.2.b.length))))).fin).e := by unfold imgE; rw [eS]
  refine AWp.seq (AWp.of_vc infoOK ?_)
  refine ADraw.of_sched infoOK (by rfl) (by rfl) sch11_20 (by rfl) ?_
  refine optK_intro (o := SA'.obj p) _ PA.hp ?_
  refine ⟨by rw [rws_len, rws_len]; exact ⟨by omega, by omega⟩, ?_⟩
  refine ⟨0, b.length - cU.2.b.length, rfl, by rw [rws_len, rws_len]; show ((b.length : Int) - (cU.2.b.length : Int)) = ((b.length - cU.2.b.length : Nat) : Int); omega, by omega, by rw [rws_len]; omega, ?_⟩
  refine ⟨startSum_spec2 _ _ ⟨⟨rfl, optK_intro (o := SA'.obj p) _ PA.hp rfl, rfl, trivial⟩, ?_⟩, trivial⟩
  refine ⟨fnvSumV (l := b.take (b.length - cU.2.b.length)) _ (by rw [rws_take]; exact AV.le_refl _) (by rw [List.length_take]; omega) ⟨trivial, ?_⟩, trivial⟩
  refine ⟨fnvBytes_spec _ _ _ ⟨trivial, ?_⟩, trivial⟩
  refine ⟨onRd PA.hp (same_spec p cU.2 SA' _ (AV.le_refl _) (by rw [eightL_len]; omega) _ ⟨trivial, ?_⟩), trivial⟩
  generalize cU.2.same (eightL (fnvSum fnvStart (b.take (b.length - cU.2.b.length)))) = sG at *
  have PB := PA.rd sG
  generalize rdO p sG SA' = SB at PB ⊢
  clear PA
  refine AWp.seq (AWp.of_vc infoOK ?_)
  refine onRd PB.hp (fin_spec p sG SB _ ?_)
  have PC := PB.rd sG.fin
  generalize rdO p sG.fin SB = SC at PC ⊢
  clear PB
  generalize sG.fin = sF at *
  have eWG : imgW b = ⟨a1, a2, a3, g.1, cB.1, cU.1⟩ := eW
  have hown : ∀ {S : Store} {t : Rd}, PS3 S p q t [int a1, int a2, int a3, int g.1.W, int g.1.H] vT g.1.T vB cB.1 vU cU.1 → Own3 S (imgW b) vT vB vU := fun h => by
    rw [eWG]
    exact ⟨h.rT, h.P.rB, h.P.rU, h.nTB, h.nTU, h.P.nBU⟩
  have hleW : leL ([int a1, int a2, int a3, int g.1.W, int g.1.H, vT] ++ [vB, vU]) (wldV3 (imgW b) vT vB vU) := by
    rw [eWG]
    exact ⟨AV.le_refl _, AV.le_refl _, AV.le_refl _, AV.le_refl _, AV.le_refl _, AV.le_refl _, AV.le_refl _, AV.le_refl _, trivial⟩
  have eWB : cB.1 = (imgW b).B := by rw [eWG]
  have eWU : cU.1 = (imgW b).U := by rw [eWG]
  refine AWp.meetA (σ := Store × Rd) ⟨fun _ => [(0, .av (byts b)), (2, .bx 2 0), (4, .av (ptr q)), (5, .av (ptr p))], fun _ => [(2, z6 ++ [nil, nil])], fun x S => S = x.1 ∧ PS3 x.1 p q x.2 [int a1, int a2, int a3, int g.1.W, int g.1.H] vT g.1.T vB cB.1 vU cU.1 ∧
    ((imgE b ≠ 0 ∧ x.2.e = imgE b) ∨ (imgE b = 0 ∧ ¬ mayP (imgW b) ∧ x.2.e = 1) ∨ (imgE b = 0 ∧ mayP (imgW b) ∧ x.2.e = 0))⟩ ?_ ?_
  · refine AWp.of_vc infoOK ?_
    refine optK_intro _ PC.hp ?_
    refine bceq (fun c1 => ?_) (fun c1 => ?_)
    rotate_left
    · exact ⟨(SC, sF), ⟨rfl, PC, .inl ⟨by rw [hE]; exact c1, hE.symm⟩⟩, ⟨LV.le_refl _, LV.le_refl _, LV.le_refl _, LV.le_refl _, trivial⟩, ⟨rfl, trivial⟩⟩
    have he0 : imgE b = 0 := hE.trans c1
    refine optK_intro _ PC.hq ?_
    refine ACalls.le (ys := [.agg (wldV3 (imgW b) vT vB vU)]) ⟨AV.le_aggL hleW, trivial⟩ ?_
    refine mayO_spec (hown PC) (img_fits he0) (img_pos b) _ (yesno (fun hm => ?_) (fun hm => ?_))
    · exact ⟨(SC, sF), ⟨rfl, PC, .inr (.inr ⟨he0, hm, c1⟩)⟩, ⟨LV.le_refl _, LV.le_refl _, LV.le_refl _, LV.le_refl _, trivial⟩, ⟨rfl, trivial⟩⟩
    · refine storeK_obj (i := ti34) (v := int 1) (b := p) (o := 1) (l := [byts sF.b, int sF.e]) rfl rfl rfl PC.hp (by simp) ?_
      have PD := PC.rd ⟨sF.b, 1⟩
      exact ⟨(_, ⟨sF.b, 1⟩), ⟨rfl, PD, .inr (.inl ⟨he0, hm, rfl⟩)⟩, ⟨LV.le_refl _, LV.le_refl _, LV.le_refl _, LV.le_refl _, trivial⟩, ⟨rfl, trivial⟩⟩
  rintro ⟨SD, t⟩ SD' ⟨rfl, PD, hcase⟩
  dsimp only at PD hcase ⊢
  refine AWp.seq (AWp.of_vc infoOK ?_)
  refine optK_intro _ PD.hp ?_
  refine bcne (fun c1 => ?_) (fun c1 => ?_)
  · refine ADraw.of_sched infoOK (by rfl) (by rfl) sch11_25 (by rfl) ?_
    refine optK_intro (o := SD'.obj p) _ PD.hp ?_
    refine ⟨⟨⟨optK_intro (o := SD'.obj p) _ PD.hp rfl, trivial⟩, ?_⟩, trivial⟩
    refine ⟨⟨trivial, ?_⟩, trivial⟩
    rcases hcase with ⟨g1, g2⟩ | ⟨g1, g2, g3⟩ | ⟨g1, g2, g3⟩
    · exact ret (fin _ _ (.inl ⟨g1, by rw [g2]; rfl⟩))
    · exact ret (fin _ _ (.inr (.inl ⟨g1, g2, by rw [g3]; rfl⟩)))
    · exact absurd g3 c1
  · refine AWp.of_vc infoOK ?_
    refine optK_intro _ PD.hq ?_
    have o1 := (rows_some PD.rT).2
    have o2 := (rows_some PD.rB).2
    have o3 := (rows_some PD.rU).2
    have oall : ([int a1, int a2, int a3, int g.1.W, int g.1.H, vT, vB, vU]).all AV.one = true := by
      show (true && (true && (true && (true && (true && (vT.one && (vB.one && (vU.one && true)))))))) = true
      rw [o1, o2, o3]; rfl
    refine storeK_boxL (i := ti30) (xs := [int a1, int a2, int a3, int g.1.W, int g.1.H, vT, vB, vU]) (l := z6 ++ [nil, nil]) (b := 2) (o := 0) (v := .agg ([int a1, int a2, int a3, int g.1.W, int g.1.H, vT] ++ [vB, vU])) rfl oall rfl (by rfl) (by show 0 + 8 ≤ 8; decide) ?_
    rcases hcase with ⟨g1, g2⟩ | ⟨g1, g2, g3⟩ | ⟨g1, g2, g3⟩
    · exact absurd (g2.symm.trans c1) g1
    · rw [g3] at c1; cases c1
    · refine retR (fin _ _ (.inr (.inr ⟨g1, g2, vT, vB, vU, hown PD, rfl⟩))) (Store.Has.refl _) (AV.le_tupL (xs := [.agg ([int a1, int a2, int a3, int g.1.W, int g.1.H, vT] ++ [vB, vU]), int 0]) ⟨AV.le_aggL hleW, AV.le_refl _, trivial⟩)
end Go.Proofs
namespace Go.Proofs
open Go Go.V
set_option linter.unusedVariables false

/-- What stands elsewhere than in a slice's block stands as before. -/
def KeepV (v : AV) (S S' : Store) : Prop := ∀ x y, (∀ n c, v ≠ .s (.slice (some ⟨x, 0, none⟩) n c)) → S.obj x = some y → S'.obj x = some y
theorem KeepV.refl (v : AV) (S : Store) : KeepV v S S := fun _ _ _ h => h
theorem _root_.Go.V.RowsO.keep {α : Type} {k : Nat} {f : α → List AV} {S S' : Store} {v : AV} {l : List α} (h : RowsO k f S v l) (hk : ∀ b n c, v = .s (.slice (some ⟨b, 0, none⟩) n c) → ∀ y, S.obj b = some y → S'.obj b = some y) : RowsO k f S' v l := by
  rcases h with h | ⟨b, cap, L, rfl, ho, h2⟩
  · exact .inl h
  · exact .inr ⟨b, cap, L, rfl, hk b _ _ rfl _ ho, h2⟩
theorem keep_set {v : AV} {S S' : Store} {b n c : Nat} (h : KeepV v S S') (hv : v = .s (.slice (some ⟨b, 0, none⟩) n c)) (z : AObj) : KeepV v S (S'.setObj b z) := fun x y hx hy => by
  have : x ≠ b := fun e => hx n c (by rw [hv, e])
  rw [setObj_ne this]; exact h x y hx hy
theorem keep_new {v : AV} {S S' : Store} {b : Nat} (h : KeepV v S S') (hb : Fresh S' b ∨ ∃ n c0, v = .s (.slice (some ⟨b, 0, none⟩) n c0)) (z : AObj) : KeepV v S (S'.setObj b z) := fun x y hx hy => by
  have h1 := h x y hx hy
  have : x ≠ b := by
    rcases hb with hb | ⟨n, c0, hb⟩
    · exact Ne.symm (hb.ne_obj h1)
    · exact fun e => hx n c0 (by rw [hb, e])
  rw [setObj_ne this]; exact h1

def spB : Bld := ⟨-9, 0, 0, 0, 0, 0⟩
def spU : Unt := ⟨-9, 0, 0, (0, 0), 0, 0, 0, 0, 0⟩
def zB : Bld := ⟨0, 0, 0, 0, 0, 0⟩
def zU : Unt := ⟨0, 0, 0, (0, 0), 0, 0, 0, 0, 0⟩

theorem spoilB_spec {S : Store} {v : AV} {l : List Bld} (hv : RowsO 6 bldC S v l) (hl : l.length ≤ 1000000) (R : AV → Store → Prop) (h : ∀ S', KeepV v S S' → R (.tup []) S') : ACalls Tryz.prog 47 [v] S R := by
  refine ACalls.of_body (c := cfg 17) infoOK Tryz.func47 (by rfl) (by rfl) (by rfl) (by rfl) ?_
  refine AWp.loop (σ := Nat × List Bld × Store) ⟨fun s => [(0, .av v), (2, .av (int (s.1 : Nat)))], fun _ => [], fun s st' => st' = s.2.2 ∧ RowsO 6 bldC s.2.2 v s.2.1 ∧ s.2.1.length = l.length ∧ s.1 ≤ l.length ∧ KeepV v S s.2.2, fun s => l.length - s.1⟩ infoOK ?_ ?_
  · exact ⟨(0, l, S), trivial, ⟨rfl, hv, rfl, Nat.zero_le _, KeepV.refl _ _⟩, ⟨LV.le_refl _, LV.le_refl _, trivial⟩, trivial⟩
  rintro ⟨i, ms, S1⟩ st' ⟨rfl, hm, hml, hi, hk⟩
  dsimp only at hm hml hi hk ⊢
  have hm0 := hm
  rcases hm with ⟨rfl, rfl⟩ | ⟨b, cap, L, rfl, ho, h1, h2, h3⟩
  · have hi0 : i = 0 := by simp at hml; omega
    subst hi0
    refine ⟨by decide, ?_⟩
    exact appRows (ie := ti66) rfl bldC_len (by decide) hm0 zB rfl (by simp) (fun b cap L q1 q2 q3 q4 => ret (h _ (keep_new hk (q1.imp id fun ⟨c0, e⟩ => ⟨_, c0, e⟩) _)))
  refine bcd (fun c1 => ?_) (fun c1 => ?_)
  · have hlt : i < ms.length := by omega
    refine ⟨i, rfl, hlt, ?_⟩
    refine storeK_objL (i := ti66) (v := .agg (bldC spB)) (xs := bldC spB) (b := b) (o := 0 + i * 6) (l := (rws bldC ms).flatten ++ L) rfl rfl rfl ho (by rw [List.length_append, rws_flat_len bldC_len]; show 0 + i * 6 + 6 ≤ _; omega) ?_
    refine in64 (by omega) ?_
    refine ⟨(i + 1, ms.set i spB, _), ?_, ⟨rfl, ?_, by dsimp only; rw [List.length_set]; exact hml, by dsimp only; omega, keep_set hk rfl _⟩, ⟨LV.le_refl _, LV.le_refl _, trivial⟩, trivial⟩
    · show l.length - (i + 1) < l.length - i
      omega
    · have e := splice_rows (f := bldC) (k := 6) (L := L) bldC_len hlt (j := 0) (ys := bldC spB) (x' := spB) (by decide) rfl
      have e2 : 0 + i * 6 = i * 6 + 0 := by omega
      dsimp only
      rw [e2, e]
      exact .inr ⟨b, cap, L, by rw [List.length_set], setObj_self _ _ _, by rw [List.length_set]; exact h1, by rw [List.length_set]; exact h2, h3⟩
  · refine ⟨by decide, ?_⟩
    exact appRows (ie := ti66) rfl bldC_len (by decide) hm0 zB rfl (by omega) (fun b cap L q1 q2 q3 q4 => ret (h _ (keep_new hk (q1.imp id fun ⟨c0, e⟩ => ⟨_, c0, e⟩) _)))

theorem spoilU_spec {S : Store} {v : AV} {l : List Unt} (hv : RowsO 10 untC S v l) (hl : l.length ≤ 1000000) (R : AV → Store → Prop) (h : ∀ S', KeepV v S S' → R (.tup []) S') : ACalls Tryz.prog 48 [v] S R := by
  refine ACalls.of_body (c := cfg 17) infoOK Tryz.func48 (by rfl) (by rfl) (by rfl) (by rfl) ?_
  refine AWp.loop (σ := Nat × List Unt × Store) ⟨fun s => [(0, .av v), (2, .av (int (s.1 : Nat)))], fun _ => [], fun s st' => st' = s.2.2 ∧ RowsO 10 untC s.2.2 v s.2.1 ∧ s.2.1.length = l.length ∧ s.1 ≤ l.length ∧ KeepV v S s.2.2, fun s => l.length - s.1⟩ infoOK ?_ ?_
  · exact ⟨(0, l, S), trivial, ⟨rfl, hv, rfl, Nat.zero_le _, KeepV.refl _ _⟩, ⟨LV.le_refl _, LV.le_refl _, trivial⟩, trivial⟩
  rintro ⟨i, ms, S1⟩ st' ⟨rfl, hm, hml, hi, hk⟩
  dsimp only at hm hml hi hk ⊢
  have hm0 := hm
  rcases hm with ⟨rfl, rfl⟩ | ⟨b, cap, L, rfl, ho, h1, h2, h3⟩
  · have hi0 : i = 0 := by simp at hml; omega
    subst hi0
    refine ⟨by decide, ?_⟩
    exact appRows (ie := ti70) rfl untC_len (by decide) hm0 zU rfl (by simp) (fun b cap L q1 q2 q3 q4 => ret (h _ (keep_new hk (q1.imp id fun ⟨c0, e⟩ => ⟨_, c0, e⟩) _)))
  refine bcd (fun c1 => ?_) (fun c1 => ?_)
  · have hlt : i < ms.length := by omega
    refine ⟨i, rfl, hlt, ?_⟩
    refine storeK_objL (i := ti70) (v := .agg (untC spU)) (xs := untC spU) (b := b) (o := 0 + i * 10) (l := (rws untC ms).flatten ++ L) rfl rfl rfl ho (by rw [List.length_append, rws_flat_len untC_len]; show 0 + i * 10 + 10 ≤ _; omega) ?_
    refine in64 (by omega) ?_
    refine ⟨(i + 1, ms.set i spU, _), ?_, ⟨rfl, ?_, by dsimp only; rw [List.length_set]; exact hml, by dsimp only; omega, keep_set hk rfl _⟩, ⟨LV.le_refl _, LV.le_refl _, trivial⟩, trivial⟩
    · show l.length - (i + 1) < l.length - i
      omega
    · have e := splice_rows (f := untC) (k := 10) (L := L) untC_len hlt (j := 0) (ys := untC spU) (x' := spU) (by decide) rfl
      have e2 : 0 + i * 10 = i * 10 + 0 := by omega
      dsimp only
      rw [e2, e]
      exact .inr ⟨b, cap, L, by rw [List.length_set], setObj_self _ _ _, by rw [List.length_set]; exact h1, by rw [List.length_set]; exact h2, h3⟩
  · refine ⟨by decide, ?_⟩
    exact appRows (ie := ti70) rfl untC_len (by decide) hm0 zU rfl (by omega) (fun b cap L q1 q2 q3 q4 => ret (h _ (keep_new hk (q1.imp id fun ⟨c0, e⟩ => ⟨_, c0, e⟩) _)))

theorem spoilT_spec {S : Store} {v : AV} {l : List UInt8} (hv : RowsO 1 u8C S v l) (hl : l.length ≤ 1000000) (R : AV → Store → Prop) (h : ∀ S', KeepV v S S' → R (.tup []) S') : ACalls Tryz.prog 46 [v] S R := by
  refine ACalls.of_body (c := cfg 20) infoOK Tryz.func46 (by rfl) (by rfl) (by rfl) (by rfl) ?_
  refine AWp.loop (σ := Nat × List UInt8 × Store) ⟨fun s => [(0, .av v), (2, .av (int (s.1 : Nat)))], fun _ => [], fun s st' => st' = s.2.2 ∧ RowsO 1 u8C s.2.2 v s.2.1 ∧ s.2.1.length = l.length ∧ s.1 ≤ l.length ∧ KeepV v S s.2.2, fun s => l.length - s.1⟩ infoOK ?_ ?_
  · exact ⟨(0, l, S), trivial, ⟨rfl, hv, rfl, Nat.zero_le _, KeepV.refl _ _⟩, ⟨LV.le_refl _, LV.le_refl _, trivial⟩, trivial⟩
  rintro ⟨i, ms, S1⟩ st' ⟨rfl, hm, hml, hi, hk⟩
  dsimp only at hm hml hi hk ⊢
  have hm0 := hm
  rcases hm with ⟨rfl, rfl⟩ | ⟨b, cap, L, rfl, ho, h1, h2, h3⟩
  · have hi0 : i = 0 := by simp at hml; omega
    subst hi0
    refine ⟨by decide, ?_⟩
    exact appRows (ie := ti5) rfl u8C_lenR (by decide) hm0 5 rfl (by simp) (fun b cap L q1 q2 q3 q4 => ret (h _ (keep_new hk (q1.imp id fun ⟨c0, e⟩ => ⟨_, c0, e⟩) _)))
  refine bcd (fun c1 => ?_) (fun c1 => ?_)
  · have hlt : i < ms.length := by omega
    refine ⟨i, rfl, hlt, ?_⟩
    have hhead : (((rws u8C ms).flatten ++ L).drop (0 + i * 1)).head? = some (.s (.int .u8 ms[i].toNat)) := by
      have hg := flatten_get (k := 1) (rows := rws u8C ms) (fun row hr => by obtain ⟨c, _, rfl⟩ := List.mem_map.1 hr; rfl) (j := 0) (rws_get hlt) (x := .s (.int .u8 ms[i].toNat)) rfl
      have hlt2 := (List.getElem?_eq_some_iff.1 hg).1
      rw [List.head?_drop, show 0 + i * 1 = i * 1 + 0 by omega, List.getElem?_append_left hlt2]
      exact hg
    refine optK_intro _ ho (optK_intro _ hhead ?_)
    refine ⟨i, rfl, hlt, ?_⟩
    have hx : bitsOf .xor .u8 ((ms[i].toNat : Nat) : Int) 85 = (((ms[i] ^^^ 85 : UInt8)).toNat : Int) := bitsOf_u8 .xor ms[i] 85
    rw [hx]
    refine storeK_obj (i := ti5) (v := u8 (ms[i] ^^^ 85)) (b := b) (o := 0 + i * 1) (l := (rws u8C ms).flatten ++ L) rfl rfl rfl ho (by rw [List.length_append, rws_flat_len u8C_lenR]; omega) ?_
    refine in64 (by omega) ?_
    refine ⟨(i + 1, ms.set i (ms[i] ^^^ 85), _), ?_, ⟨rfl, ?_, by dsimp only; rw [List.length_set]; exact hml, by dsimp only; omega, keep_set hk rfl _⟩, ⟨LV.le_refl _, LV.le_refl _, trivial⟩, trivial⟩
    · show l.length - (i + 1) < l.length - i
      omega
    · have e := splice_rows (f := u8C) (k := 1) (L := L) u8C_lenR hlt (j := 0) (ys := [u8 (ms[i] ^^^ 85)]) (x' := ms[i] ^^^ 85) (by simp) rfl
      have e2 : 0 + i * 1 = i * 1 + 0 := by omega
      dsimp only
      rw [e2, e]
      exact .inr ⟨b, cap, L, by rw [List.length_set], setObj_self _ _ _, by rw [List.length_set]; exact h1, by rw [List.length_set]; exact h2, h3⟩
  · refine ⟨by decide, ?_⟩
    exact appRows (ie := ti5) rfl u8C_lenR (by decide) hm0 5 rfl (by omega) (fun b cap L q1 q2 q3 q4 => ret (h _ (keep_new hk (q1.imp id fun ⟨c0, e⟩ => ⟨_, c0, e⟩) _)))

theorem spoilW_spec {S : Store} {w : Wld} {vT vB vU : AV} (ho : Own3 S w vT vB vU) (hT : w.G.T.length ≤ 1000000) (hB : w.B.length ≤ 1000000) (hU : w.U.length ≤ 1000000) (R : AV → Store → Prop) (h : R (.tup []) Store.empty) : ACalls Tryz.prog 16 [.agg (wldV3 w vT vB vU)] S R := by
  have hemp : ∀ st : Store, st.Has Store.empty := fun st => ⟨fun b x h => (by cases h), fun b x h => (by cases h)⟩
  refine ACalls.of_body (c := cfg 12) infoOK Tryz.func16 (by rfl) (by rfl) (by rfl) (by rfl) ?_
  refine spoilT_spec ho.rT hT _ (fun S1 k1 => ?_)
  have rB1 : RowsO 6 bldC S1 vB w.B := ho.rB.keep fun b n c e y hy => k1 b y (fun n2 c2 e2 => ho.nTB _ _ _ _ _ _ e2 e rfl) hy
  have rU1 : RowsO 10 untC S1 vU w.U := ho.rU.keep fun b n c e y hy => k1 b y (fun n2 c2 e2 => ho.nTU _ _ _ _ _ _ e2 e rfl) hy
  refine spoilB_spec rB1 hB _ (fun S2 k2 => ?_)
  have rU2 : RowsO 10 untC S2 vU w.U := rU1.keep fun b n c e y hy => k2 b y (fun n2 c2 e2 => ho.nBU _ _ _ _ _ _ e2 e rfl) hy
  refine spoilU_spec rU2 hU _ (fun S3 k3 => ?_)
  exact retHas (AV.le_refl _) (hemp _) h

theorem spoil0_spec (st : Store) (R : AV → Store → Prop) (h : R (.tup []) st) : ACalls Tryz.prog 16 [.agg [int 0, int 0, int 0, int 0, int 0, nil, nil, nil]] st R := by
  have ho : Own3 Store.empty w00 nil nil nil := ⟨.inl ⟨rfl, rfl⟩, .inl ⟨rfl, rfl⟩, .inl ⟨rfl, rfl⟩, fun _ _ _ _ _ _ e => (by cases e), fun _ _ _ _ _ _ e => (by cases e), fun _ _ _ _ _ _ e => (by cases e)⟩
  rw [← empty_un st]
  exact ACalls.frame (disj_emptyL st) (spoilW_spec ho (by decide) (by decide) (by decide) (fun r S => r = .tup [] ∧ S = Store.empty) ⟨rfl, rfl⟩) fun r S ⟨e1, e2⟩ hd => by subst e1 e2; rw [empty_un]; exact h
end Go.Proofs
