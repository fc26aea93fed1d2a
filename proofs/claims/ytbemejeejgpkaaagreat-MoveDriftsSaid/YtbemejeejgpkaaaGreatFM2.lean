/- The ground on which laws of thronglaw24 are proved: contracts of functions and plain lemmas; no condition beyond the row's own. -/
import Derived.Test.YtbemejeejgpkaaaGreatRows
import Derived.Test.YtbemejeejgpkaaaGreatVJ
import Derived.Test.YtbemejeejgpkaaaGreatSK
set_option linter.unusedSimpArgs false
set_option linter.unusedVariables false
namespace Go.V
def dfG : Gnd := ⟨9, 3, [0, 0, 0, 0, 0, 0, 0, 0, 0, 0, 0, 0, 0, 0, 0, 0, 0, 0, 0, 0, 0, 0, 0, 0, 0, 0, 0]⟩
def dfU (id x : Int) : Unt := { id := id, owner := 1, kind := 0, pos := (x, 98304), goal := -1, next := -1, stuck := 0, inn := 0, state := 0 }
def dfA : Nat → Int
 | 0 => 294912
 | 1 => 290816
 | 2 => 290816
 | _ => 286720
def dfB : Nat → Int
 | 0 => 344064
 | 1 => 344064
 | 2 => 348160
 | 3 => 348160
 | _ => 352256
def dfW (n : Nat) : Wld := { tick := 0, players := 1, next := 9, G := dfG, B := [], U := [dfU 1 (dfA n), dfU 2 (dfB n)] }
def dfS (n : Nat) : Wld := dfW (min n 4)
theorem yin : ∀ n, n < 5 → mayP (dfW n) := by decide +kernel
theorem zbp (n : Nat) : mayP (dfS n) := yin _ (by omega)
theorem yd7 (n : Nat) : ∀ u ∈ (dfS n).U, u.pos.ok := fun u hu => yh4 (zmt (zbp n) hu (by
  unfold dfS dfW at hu
  simp at hu
  rcases hu with rfl | rfl <;> rfl))
theorem zsx (n : Nat) : playW (dfS n) := ⟨zbp n, yd7 n⟩
theorem yka : ∀ n, n < 4 → n % 2 = 0 → zei (dfW n) (dfU 1 (dfA n)) = dfW (n + 1) := by decide +kernel
theorem yj9 : ∀ n, n < 4 → n % 2 = 1 → zei (dfW n) (dfU 2 (dfB n)) = dfW (n + 1) := by decide +kernel
theorem df_st3 : zei (dfW 4) (dfU 1 (dfA 4)) = dfW 4 ∧ zei (dfW 4) (dfU 2 (dfB 4)) = dfW 4 := by decide +kernel
theorem ykb (n : Nat) (h : n % 2 = 0) : ze6 (dfS n) (dfU 1 (dfA (min n 4))) = dfS (n + 1) := by
 show zei (dfW (min n 4)) (dfU 1 (dfA (min n 4))) = dfW (min (n + 1) 4)
 by_cases hn : n < 4
 ·rw [show min n 4 = n by omega, show min (n + 1) 4 = n + 1 by omega]
  exact yka n hn h
 ·rw [show min n 4 = 4 by omega, show min (n + 1) 4 = 4 by omega]
  exact df_st3.1
theorem yj8 (n : Nat) (h : n % 2 = 1) : ze6 (dfS n) (dfU 2 (dfB (min n 4))) = dfS (n + 1) := by
 show zei (dfW (min n 4)) (dfU 2 (dfB (min n 4))) = dfW (min (n + 1) 4)
 by_cases hn : n < 4
 ·rw [show min n 4 = n by omega, show min (n + 1) 4 = n + 1 by omega]
  exact yj9 n hn h
 ·rw [show min n 4 = 4 by omega, show min (n + 1) 4 = 4 by omega]
  exact df_st3.2
theorem df_end : cenV dfG 13 = (294912, 98304) ∧ kRad 0 = 24576 := by decide +kernel
theorem ykc : gndP dfG := by decide +kernel
theorem df_a (n : Nat) : dfA (min (n + 1) 4) ≤ dfA (min n 4) := by
 have h4 : ∀ k, k < 4 → dfA (k + 1) ≤ dfA k := by decide
 by_cases hn : n < 4
 ·rw [show min n 4 = n by omega, show min (n + 1) 4 = n + 1 by omega]
  exact h4 n hn
 ·rw [show min n 4 = 4 by omega, show min (n + 1) 4 = 4 by omega]
  exact Int.le_refl _
theorem df_b (n : Nat) : dfB (min n 4) ≤ dfB (min (n + 1) 4) := by
 have h4 : ∀ k, k < 4 → dfB k ≤ dfB (k + 1) := by decide
 by_cases hn : n < 4
 ·rw [show min n 4 = n by omega, show min (n + 1) 4 = n + 1 by omega]
  exact h4 n hn
 ·rw [show min n 4 = 4 by omega, show min (n + 1) 4 = 4 by omega]
  exact Int.le_refl _
end Go.V
namespace Go.Proofs
open Go Go.V
theorem zk9 (w : Wld) (hw : playW w) (id : Int) (st : Store) (R : AV → Store → Prop)
  (hbad : askM w id ≠ 0 → R (.tup [.agg wld0, int (askM w id)]) st) (hok : askM w id = 0 → R (.tup [.agg (wldC (zdo w id)), int 0]) st) :
  ACalls Tryz.prog 15 [.agg (wldC w), int id] st R :=
 zf7 w (mayF hw.1).fits hw.2 hw.sizes.1 hw.sizes.2.1 hw.sizes.2.2 id st R hbad hok
def wNil : Wld := ⟨0, 0, 0, ⟨0, 0, []⟩, [], []⟩
theorem yh5 {a b c d : AV} (h : AV.le a c) (h' : AV.le b d) : AV.le (.tup [a, b]) (.tup [c, d]) := by
 intro w T v hv
 cases hv with
 | tup _ cs hl hc =>
  refine .tup _ cs hl fun i x y hx hy => ?_
  match i, hx with
  | 0, hx => cases hx; exact h w T y (hc 0 _ _ rfl hy)
  | 1, hx => cases hx; exact h' w T y (hc 1 _ _ rfl hy)
  | i + 2, hx => cases hx
/-- What move.Unit hands back. -/
noncomputable def mout (w : Wld) (id : Int) : Wld := if askM w id = 0 then zdo w id else wNil
theorem zeb (w : Wld) (hw : playW w) (id : Int) (x : Wld) (hx : mout w id = x) (e : Int) (he : askM w id = e) (st : Store) (R : AV → Store → Prop) (h : R (.tup [.agg (wldC x), int e]) st) : ACalls Tryz.prog 15 [.agg (wldC w), int id] st R := by
 subst hx
 subst he
 refine ACalls.post (R := fun r s => AV.le r (.tup [.agg (wldC (mout w id)), int (askM w id)]) ∧ s = st) (zk9 w hw id st _ (fun q => ⟨yh5 ?_ (ar_ _), rfl⟩) (fun q => ⟨?_, rfl⟩)) (Store.Le.refl st) (fun r s hr => ⟨_, s, hr.1, Store.Le.refl s, hr.2 ▸ h⟩)
 ·unfold mout
  rw [if_neg q]
  exact AV.le_aggL ⟨ar_ _, ar_ _, ar_ _, ar_ _, ar_ _, AV.le_nil 1, AV.le_nil 6, AV.le_nil 10, trivial⟩
 ·unfold mout
  rw [if_pos q, q]
  exact ar_ _
end Go.Proofs
namespace Go.Proofs
open Go Go.V
theorem yim (n : Nat) (h : n % 2 = 0) : askM (dfS n) 1 = 0 ∧ mout (dfS n) 1 = dfS (n + 1) := by
 have e := ze2 (zbp n) (i := 0) (show 0 < 2 by decide)
 have e1 : askM (dfS n) 1 = 0 := e
 refine ⟨e1, ?_⟩
 unfold mout
 rw [if_pos e1]
 have := zc8 (zbp n).1.2.1 (i := 0) (show 0 < 2 by decide)
 exact this.trans (ykb n h)
theorem yil (n : Nat) (h : n % 2 = 1) : askM (dfS n) 2 = 0 ∧ mout (dfS n) 2 = dfS (n + 1) := by
 have e := ze2 (zbp n) (i := 1) (show 1 < 2 by decide)
 have e1 : askM (dfS n) 2 = 0 := e
 refine ⟨e1, ?_⟩
 unfold mout
 rw [if_pos e1]
 have := zc8 (zbp n).1.2.1 (i := 1) (show 1 < 2 by decide)
 exact this.trans (yj8 n h)
theorem yd8 (n : Nat) (id : Int) (h : (n % 2 : Nat) + 1 = id) : askM (dfS n) id = 0 ∧ mout (dfS n) id = dfS (n + 1) := by
 rcases Nat.mod_two_eq_zero_or_one n with e | e
 ·rw [e] at h; subst h; exact yim n e
 ·rw [e] at h; subst h; exact yil n e
set_option maxHeartbeats 2000000 in
set_option maxRecDepth 20000 in
theorem zfc (s : Scr24) (st : Store) (R : AV → Store → Prop) (h : R (V.bool true) st) : ACalls Tryz.prog 7 [.agg (zim s)] st R := by
 refine ACalls.of_awp (c := cfg 155) zc Tryz.func7 (by rfl) (by rfl) (by rfl) (by rfl) ?_
 refine AWp.seq (AWp.of_vc zc ?_)
 refine AWp.seq (AWp.of_vc zc ?_)
 refine xe rfl (it := ti22) (ie := ti5) rfl rfl rfl rfl rfl (n := 27) (by decide) (by decide) (fun b hf => ?_)
 refine AWp.freezeBx (d := 3) (j := 2) (b := b) (n := 27) (cap := 27) (k := 1) (rows := rws u8C dfG.T) (pad := []) rfl rfl (zb _ _ _) hf.2 rfl (Nat.le_refl _) ?_ ?_ ?_
 ·intro row hr
  obtain ⟨x, _, rfl⟩ := List.mem_map.1 hr
  rfl
 ·intro row hr y hy
  obtain ⟨x, _, rfl⟩ := List.mem_map.1 hr
  simp [u8C, u8] at hy
  exact ⟨_, hy, rfl⟩
 rw [xn hf.1]
 refine AWp.of_vc zc ?_
 refine zev dfG ykc 13 (by decide) 13 rfl df_end.1 _ _ ?_
 refine kn 0 (by decide) _ _ ?_
 refine in64 (by decide) ?_
 refine in64 (by decide) ?_
 refine ⟨by decide, ?_⟩
 refine AWp.loop (σ := Nat × AV) ⟨fun x => [(1, .bx 1 0), (4, .bx 4 0), (5, .bx 5 0), (6, .av (int 49152)), (8, .av (int (x.1 : Nat)))], fun x => [(1, zim s), (4, wldB (dfS (2 * x.1)) x.2), (5, vecC (294912, 98304))],
  fun x st' => x.1 ≤ 40 ∧ st' = st ∧ AV.le x.2 (lst 6 bldC []), fun x => 40 - x.1⟩ zc ?_ ?_
 ·exact ⟨(0, nil), trivial, ⟨Nat.zero_le _, rfl, AV.le_nil 6⟩, ⟨lr_ _, lr_ _, lr_ _, lr_ _, lr_ _, trivial⟩, ⟨rfl, rfl, rfl, trivial⟩⟩
 rintro ⟨i, bv⟩ st' ⟨hi, rfl, hb⟩
 dsimp only at hi hb ⊢
 refine bcd (fun c1 => ?_) (fun c1 => ?_)
 ·have hi5 : i < 40 := by omega
  refine AWp.loop (σ := Nat × AV) ⟨fun x => [(1, .bx 1 0), (4, .bx 4 0), (5, .bx 5 0), (6, .av (int 49152)), (8, .av (int (i : Nat))), (9, .av (int ((x.1 + 1 : Nat) : Int)))], fun x => [(1, zim s), (4, wldB (dfS (2 * i + x.1)) x.2), (5, vecC (294912, 98304))],
   fun x st2 => x.1 ≤ 2 ∧ st2 = st' ∧ AV.le x.2 (lst 6 bldC []), fun x => 2 - x.1⟩ zc ?_ ?_
  ·exact ⟨(0, bv), trivial, ⟨Nat.zero_le _, rfl, hb⟩, ⟨lr_ _, lr_ _, lr_ _, lr_ _, lr_ _, lr_ _, trivial⟩, ⟨rfl, rfl, rfl, trivial⟩⟩
  rintro ⟨j, bw⟩ st2 ⟨hj, rfl, hbw⟩
  dsimp only at hj hbw ⊢
  refine bcd (fun d1 => ?_) (fun d1 => ?_)
  rotate_left
  ·have : j = 2 := by omega
   subst this
   refine in64 (by omega) ?_
   exact ⟨(i + 1, bw), (show 40 - (i + 1) < 40 - i by omega), ⟨by dsimp only; omega, rfl, hbw⟩, ⟨lr_ _, lr_ _, lr_ _, lr_ _, lr_ _, trivial⟩, ⟨rfl, rfl, rfl, trivial⟩⟩
  have hj2 : j < 2 := by omega
  obtain ⟨m1, m2⟩ := yd8 (2 * i + j) ((j + 1 : Nat) : Int) (by omega)
  refine ACalls.le (show leL [.agg (wldB (dfS (2 * i + j)) bw), int ((j + 1 : Nat) : Int)] [.agg (wldC (dfS (2 * i + j))), int ((j + 1 : Nat) : Int)] from ⟨zgq hbw, ar_ _, trivial⟩) (zeb _ (zsx _) _ _ m2 _ m1 _ _ ?_)
  refine ADraw.of_sched zc (by rfl) (by rfl) yhb (by rfl) ?_
  refine ⟨zb7 _ _ _ ⟨(by repeat (first | exact trivial | refine ⟨rfl, ?_⟩ | refine ⟨optR (optR (optR (za _ (zb _ _ _) rfl))), ?_⟩)), ?_⟩, trivial⟩
  refine ⟨zqn (dfS (2 * i + j + 1)) (mayF (zbp _)).fits (yd7 _) _ _ (fun y2 hy2 => ⟨(by repeat (first | exact trivial | refine ⟨rfl, ?_⟩ | refine ⟨optR (optR (optR (za _ (zb _ _ _) rfl))), ?_⟩)), ?_⟩), trivial⟩
  refine yj ?_
  refine zd (fun c3 => ?_) (fun c3 => absurd (hy2.2 (zbp _)) (by simp [c3]))
  have l0 : ∀ n, 0 < (dfS n).U.length := fun n => (show 0 < 2 by decide)
  have l1 : ∀ n, 1 < (dfS n).U.length := fun n => (show 1 < 2 by decide)
  refine ⟨0, rfl, za _ (zg (l0 _)) ?_⟩
  refine ⟨0, rfl, za _ (zg (l0 _)) ?_⟩
  refine bcd (fun c4 => absurd c4 (Int.not_lt.2 (df_a _))) (fun c4 => ?_)
  refine ⟨1, rfl, za _ (zg (l1 _)) ?_⟩
  refine ⟨1, rfl, za _ (zg (l1 _)) ?_⟩
  refine bcd (fun c5 => absurd c5 (Int.not_lt.2 (df_b _))) (fun c5 => ?_)
  refine in64 (by omega) ?_
  exact ⟨(j + 1, lst 6 bldC []), (show 2 - (j + 1) < 2 - j by omega), ⟨by dsimp only; omega, rfl, ar_ _⟩, ⟨lr_ _, lr_ _, lr_ _, lr_ _, lr_ _, lr_ _, trivial⟩, ⟨rfl, rfl, rfl, trivial⟩⟩
 have : i = 40 := by omega
 subst this
 have l0 : ∀ n, 0 < (dfS n).U.length := fun n => (show 0 < 2 by decide)
 have l1 : ∀ n, 1 < (dfS n).U.length := fun n => (show 1 < 2 by decide)
 refine ADraw.of_sched zc (by rfl) (by rfl) yha (by rfl) ?_
 refine ⟨1, rfl, za _ (zg (l1 _)) ?_⟩
 refine ⟨0, rfl, za _ (zg (l0 _)) ?_⟩
 have e1 : (dfS (2 * 40)).U[1].pos.fst = 352256 := by decide
 have e0 : (dfS (2 * 40)).U[0].pos.fst = 286720 := by decide
 refine in64 (by rw [e1, e0]; decide) ?_
 refine in64 (by decide) ?_
 refine ⟨0, rfl, za _ (zg (l0 _)) ?_⟩
 refine ⟨1, rfl, za _ (zg (l1 _)) ?_⟩
 obtain ⟨m1, m2⟩ := yd8 80 1 rfl
 refine ACalls.le (show leL [.agg (wldB (dfS 80) bv), int 1] [.agg (wldC (dfS 80)), int 1] from ⟨zgq hb, ar_ _, trivial⟩) (zeb _ (zsx _) _ _ m2 _ m1 _ _ ?_)
 refine zb7 _ _ _ ?_
 refine ACalls.le (show leL [.agg (wldC (dfS 80)), .agg (wldB (dfS 80) bv)] [.agg (wldC (dfS 80)), .agg (wldC (dfS 80))] from ⟨ar_ _, zgq hb, trivial⟩) (zjq (dfS 80) (mayF (zbp _)).fits _ _ ?_)
 exact zhz _ _ (ret h)
end Go.Proofs
namespace Go.Proofs.YtbemejeejgpkaaaGreat
open Go Go.V Go.ChangeShapes Go.WideShapes Go.ChangeAt Go.RowKit
theorem own : ownKnob Tryz.prog.godebug = none := by kernel_rfl
theorem laid : laidOutB Tryz.prog = true := by kernel_rfl
theorem agg_cells {P : Program} {w : World} {r : Reach} {base : Nat} {t : TypeId} {fs : Array Field} {v : Value} (ht : P.underlying t = some (.struct fs)) (h : Value.okWide P w r base t v) : ∃ cs, v = .agg cs := by
 simp only [Value.okWide, ht] at h
 cases v <;> simp_all [Cell.okWide, Cell.ok]
set_option maxRecDepth 100000 in
theorem moveDrifts_lifted (os : Os) (started : os.Started) (H : Type) (enc : TypeId × Value → H) :
  ReturnsInHanded {} Tryz.checked os 7 .any (Rows.moveDriftsSpec.pre6 enc Tryz.prog Tryz.f7 Rows.moveDriftsRow.domain false) (Rows.moveDriftsSpec.post enc Tryz.prog Tryz.f7 false true false false) := by
 refine returnsInHanded_of_change_sized (C := Tryz.checked) own started (by kernel_rfl) Tryz.func7
  (ChangeSpec.witness6 (enc := enc) (C := Tryz.checked) false ⟨#[], #[.agg #[.int .i64 0, .int .i64 0, .int .i64 0, .int .i64 0, .int .i64 0, .slice none 0 0, .slice none 0 0, .slice none 0 0, .slice none 0 0, .slice none 0 0]], []⟩ 8 (by kernel_rfl) (by kernel_rfl) (by kernel_rfl) (by kernel_rfl)) ?_
 intro W base args ds gs before hval0 hW hcnd hsz _
 have hval : ∀ (j : Nat) t v, Tryz.f7.params[j]? = some t → args[j]? = some v → Value.okWide Tryz.prog W .any base t v := hval0
 have hW' := hW
 obtain ⟨p, q, hA0, hV, rfl, hfz, hnd⟩ := hW
 have hA : DataW.TrodAll enc Tryz.prog W 0 (fun _ => true) true Tryz.f7.params.toList args.toList ds p := hA0
 rw [Tryz.params7] at hA hval
 obtain ⟨v, d, rfl, rfl, hd⟩ := trodAll_one hA
 obtain ⟨rfl, rfl⟩ := trodVars_none hV
 obtain ⟨fuel, hd0⟩ := hd
 have hw : ∀ n ∈ d.weights Tryz.prog 32, n ≤ reachBytes := fun n hn => by
  have h2 := List.all_eq_true.1 hsz n (DataW.weights_mem_each (j := 0) (t := 32) (d := d) (by rfl) (by rfl) n hn)
  simpa using h2
 obtain ⟨l, hl, hc⟩ := scr24_codec.out enc W 0 true fuel _ _ hd0 hw
 obtain ⟨cs, rfl⟩ := agg_cells Tryz.underlying32 (hval 0 _ v rfl rfl)
 have hv : VRel W T0 (.agg (zim l)) (.agg cs) := by
  refine VRel.agg _ _ ?_ fun i x y hx hy => (hc.2 i x y hx ?_).1
  ·exact hc.1.trans (by simp [Value.cells])
  ·simpa [Value.cells] using hy
 have hlt : ∀ x ∈ p, x.block < W.heap.size := fun x hx => hW'.lt x (by simpa using hx)
 clear hA0 hval0
 refine (zex Tryz.func7 rfl (by rfl) (R := fun r => r = V.bool true) (zfc l _ (fun r _ => r = V.bool true) rfl) hv).mono fun e W' ⟨r, u, he, hr, ⟨T, hvr⟩, hb⟩ => ?_
 subst hr
 have hu : u = .bool true := VRel.eq_s hvr
 subst hu
 subst he
 refine ⟨_, rfl, zk1 (pa := p) (pv := []) hW' (fun _ _ _ => trodAll_cons_mk (shut_bool Tryz.underlying4 _) trodAll_mk0) (fun sp hsp => ?_) (fun _ _ => rfl) rfl (Below.kept hb _) (Below.froz hb) (ok_one (by kernel_rfl) rfl (okWide_bool_mk Tryz.underlying4 _))⟩
 exact trodAll_mk1 (WideElems.Trod_stays laid (by kernel_rfl) (of_decide_eq_true (by kernel_rfl)) ⟨fuel, hd0⟩ (fun x hx => hb.same (hlt x hx)) (fun x hx => hsp x (by simpa using hx)))
set_option maxHeartbeats 4000000 in
theorem closed : joinedFacts Tryz.pinned.checked.prog 7 Tryz.f7 Rows.moveDriftsSpec Rows.moveDriftsRow = true := by
 unfold joinedFacts
 repeat (refine (Bool.and_eq_true_iff).2 ⟨?_, ?_⟩)
 all_goals (as_aux_lemma => kernel_rfl)
theorem moveDrifts_proved : Rows.MoveDriftsSaid :=
 OpenClaim.holds_of_wide 7 Tryz.f7 rfl rfl rfl rfl rfl rfl rfl ⟨rfl, rfl, rfl, rfl, rfl⟩ rfl rfl rfl rfl rfl (by kernel_rfl) Tryz.func7 closed
  (of_decide_eq_true (by kernel_rfl)) (by unfold Func.isWrapper; first | (rw [if_pos (by decide +kernel)]; kernel_rfl) | (rw [if_neg (by decide +kernel)]; exact ⟨rfl, rfl⟩))
  (fun os started H enc _ => moveDrifts_lifted os started H enc)
#print axioms moveDrifts_proved
end Go.Proofs.YtbemejeejgpkaaaGreat
