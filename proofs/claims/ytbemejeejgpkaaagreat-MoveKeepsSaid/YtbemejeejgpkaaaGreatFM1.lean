/- The ground on which laws of thronglaw24 are proved: contracts of functions and plain lemmas; no condition beyond the row's own. -/
import Derived.Test.YtbemejeejgpkaaaGreatRows
import Derived.Test.YtbemejeejgpkaaaGreatVJ
import Derived.Test.YtbemejeejgpkaaaGreatSK
set_option linter.unusedSimpArgs false
set_option linter.unusedVariables false
namespace Go.Proofs
open Go Go.V
set_option maxRecDepth 20000 in
theorem zj3 (a : Scr24) (st : Store) (R : AV → Store → Prop) (h : ∀ z : Bool, (z = true ↔ zdv a) → R (bool z) st) : ACalls Tryz.prog 12 [.agg (zgi a)] st R := by
 refine ACalls.of_body (c := cfg 18) zc Tryz.func12 (by rfl) (by rfl) (by rfl) (by rfl) ?_
 repeat' (first | refine bcd (fun _ => ?_) (fun _ => ?_) | refine zd (fun _ => ?_) (fun _ => ?_) | refine in64 (by omega) ?_ | (refine ze5 a.W _ _ ?_; rintro (_ | _) hz)| fail)
 all_goals
  refine ret (h _ ?_)
  simp only [decide_eq_true_eq, decide_eq_false_iff_not, Bool.false_eq_true, false_iff, true_iff, beq_iff_eq, bne_iff_ne, beq_eq_false_iff_ne, ne_eq, reduceCtorEq, zi, zdv, zj8] at *
  omega
theorem zud {w : Wld} {id : Int} (hm : mayP w) (he : askM w id = 0) : ∃ (i : Nat) (hi : i < w.U.length), w.U[i].id = id ∧ w.U[i].inn = 0 := by
 unfold askM at he
 rw [if_pos hm] at he
 cases hf : w.U.find? (fun u => u.id == id) with
 | none => rw [hf] at he; cases he
 | some u =>
  rw [hf] at he
  obtain ⟨i, hi, e⟩ := List.getElem_of_mem (List.mem_of_find?_eq_some hf)
  have hid := List.find?_some hf
  refine ⟨i, hi, ?_, ?_⟩
  ·rw [e]; simpa using hid
  ·rw [e]
   dsimp only at he
   by_cases h0 : u.inn = 0
   ·exact h0
   ·rw [if_neg h0] at he; cases he
theorem zoa {w : Wld} (hw : playW w) {id : Int} (he : askM w id = 0) : ∃ (i : Nat) (hi : i < w.U.length) (u' : Unt), w.U[i].id = id ∧ w.U[i].inn = 0 ∧ vy w id = putU w u' ∧ zhd w.U[i] u' ∧ playW (vy w id) := by
 obtain ⟨i, hi, e1, e2⟩ := zud hw.1 he
 obtain ⟨u', h1, h2⟩ := zqr hw.1 hi e2
 have hm := yd0 hw.1 hi e2
 have e := zhh hw.1.1.2.1 hi
 rw [e1] at e
 refine ⟨i, hi, u', e1, e2, by rw [e, h1], h2, by rw [e]; exact hm, ?_⟩
 rw [e, h1]
 exact yko hw.2 (yfk h2 (hw.2 _ (List.getElem_mem hi)))
theorem zl0 (w : Wld) (hw : playW w) (id : Int) (st : Store) (R : AV → Store → Prop)
  (hbad : askM w id ≠ 0 → R (.tup [.agg wld0, int (askM w id)]) st) (hok : askM w id = 0 → R (.tup [.agg (wldC (vy w id)), int 0]) st) :
  ACalls Tryz.prog 15 [.agg (wldC w), int id] st R :=
 zgs w (mayF hw.1).fits hw.2 hw.sizes.1 hw.sizes.2.1 hw.sizes.2.2 id st R hbad hok
def wNil : Wld := ⟨0, 0, 0, ⟨0, 0, []⟩, [], []⟩
theorem yi7 {a b c d : AV} (h : AV.le a c) (h' : AV.le b d) : AV.le (.tup [a, b]) (.tup [c, d]) := by
 intro w T v hv
 cases hv with
 | tup _ cs hl hc =>
  refine .tup _ cs hl fun i x y hx hy => ?_
  match i, hx with
  | 0, hx => cases hx; exact h w T y (hc 0 _ _ rfl hy)
  | 1, hx => cases hx; exact h' w T y (hc 1 _ _ rfl hy)
  | i + 2, hx => cases hx
/-- What move.Unit hands back. -/
noncomputable def mout (w : Wld) (id : Int) : Wld := if askM w id = 0 then vy w id else wNil
theorem zl1 (w : Wld) (hw : playW w) (id : Int) (x : Wld) (hx : mout w id = x) (e : Int) (he : askM w id = e) (st : Store) (R : AV → Store → Prop) (h : R (.tup [.agg (wldC x), int e]) st) : ACalls Tryz.prog 15 [.agg (wldC w), int id] st R := by
 subst hx
 subst he
 refine ACalls.post (R := fun r s => AV.le r (.tup [.agg (wldC (mout w id)), int (askM w id)]) ∧ s = st) (zl0 w hw id st _ (fun q => ⟨yi7 ?_ (ar_ _), rfl⟩) (fun q => ⟨?_, rfl⟩)) (Store.Le.refl st) (fun r s hr => ⟨_, s, hr.1, Store.Le.refl s, hr.2 ▸ h⟩)
 ·unfold mout
  rw [if_neg q]
  exact AV.le_aggL ⟨ar_ _, ar_ _, ar_ _, ar_ _, ar_ _, AV.le_nil 1, AV.le_nil 6, AV.le_nil 10, trivial⟩
 ·unfold mout
  rw [if_pos q, q]
  exact ar_ _
set_option maxHeartbeats 2000000 in
set_option maxRecDepth 20000 in
theorem zhr (s : Scr24) (hs : s.good) (st : Store) (R : AV → Store → Prop) (h : R (V.bool true) st) : ACalls Tryz.prog 4 [.agg (zgi s)] st R := by
 refine ACalls.of_body (c := cfg 99) zc Tryz.func4 (by rfl) (by rfl) (by rfl) (by rfl) ?_
 refine zj3 s _ _ (fun z hz => ?_)
 refine zd (fun c1 => ret h) (fun c1 => ?_)
 have hnh : ¬ zdv s := fun hh => by have := hz.2 hh; rw [this] at c1; cases c1
 unfold zdv zj8 at hnh
 have hfit : s.W.fits := ⟨by unfold Gnd.fits; omega, by omega, by omega⟩
 have hI : s.I.length ≤ 40 := by omega
 refine zjf s.W hfit hs.1 _ _ (fun y hy => ?_)
 refine yj ?_
 refine zd (fun c2 => ?_) (fun c2 => ret h)
 have hm := hy.1 c2
 refine zas s.W hfit _ _ ?_
 refine AWp.loop (σ := Nat × Wld) ⟨fun x => [(1, .bx 1 0), (3, .bx 3 0), (4, .av (int (x.1 : Nat)))], fun x => [(1, zgi s), (3, wldC x.2)], fun x st' => x.1 ≤ s.I.length ∧ st' = st ∧ playW x.2, fun x => s.I.length - x.1⟩ zc ?_ ?_
 ·exact ⟨(0, s.W), trivial, ⟨Nat.zero_le _, rfl, hm, hs.1⟩, ⟨lr_ _, lr_ _, lr_ _, trivial⟩, ⟨rfl, rfl, trivial⟩⟩
 rintro ⟨i, w⟩ st' ⟨hi, rfl, hw⟩
 dsimp only at hi hw ⊢
 refine zd (fun h1 => ?_) (fun h1 => zc0 _ _ (ret h))
 have hlt : i < s.I.length := xl h1
 refine bcd (fun h2 => ?_) (fun h2 => zc0 _ _ (ret h))
 refine ADraw.of_sched zc (by rfl) (by rfl) ykk (by rfl) ?_
 refine ⟨i, rfl, za _ (zg hlt) ?_⟩
 have ap := fun st2 R2 => zl1 w hw s.I[i] _ rfl _ rfl st2 R2
 have hgood : askM w s.I[i] = 0 → ∃ (k : Nat) (hk : k < w.U.length) (u' : Unt), w.U[k].id = s.I[i] ∧ w.U[k].inn = 0 ∧ vy w s.I[i] = putU w u' ∧ zhd w.U[k] u' ∧ playW (vy w s.I[i]) := zoa hw
 have hmo : askM w s.I[i] = 0 → mout w s.I[i] = vy w s.I[i] := fun e => by unfold mout; rw [if_pos e]
 generalize mout w s.I[i] = x at *
 generalize vy w s.I[i] = w2 at *
 generalize askM w s.I[i] = e at *
 refine ⟨ap _ _ ⟨trivial, ?_⟩, ⟨⟨?_, ⟨ap _ _ ⟨trivial, ?_⟩, trivial⟩⟩, trivial⟩⟩
 rotate_left
 ·repeat (first | exact trivial | refine ⟨rfl, ?_⟩ | refine ⟨⟨i, rfl, za _ (zg hlt) rfl⟩, ?_⟩)
 rotate_left
 refine ⟨⟨(by repeat (first | exact trivial | refine ⟨rfl, ?_⟩ | refine ⟨⟨i, rfl, za _ (zg hlt) rfl⟩, ?_⟩)), ⟨⟨trivial, ⟨⟨trivial, ?_⟩, trivial⟩⟩, trivial⟩⟩, trivial⟩
 rotate_left
 refine ⟨⟨trivial, ⟨⟨trivial, ?_⟩, trivial⟩⟩, trivial⟩
 all_goals
  refine zgq _ _ _ ?_
  refine bcne (fun e0 => ?_) (fun e0 => ?_)
  ·refine in64 (by omega) ?_
   exact ⟨(i + 1, w), (show s.I.length - (i + 1) < s.I.length - i by omega), ⟨hlt, rfl, hw⟩, ⟨lr_ _, lr_ _, lr_ _, trivial⟩, ⟨rfl, rfl, trivial⟩⟩
  obtain ⟨k0, hk0, u', q1, q2, q3, q4, q5⟩ := hgood e0
  have q6 := hmo e0
  subst q6
  have hxl : x.U.length = w.U.length := by rw [q3]; exact zdr w u'
  have hrk := hw.1.1.2.1
  have hat : ∃ h2 : k0 < x.U.length, x.U[k0] = u' := by rw [q3]; exact zeu hrk hk0 q4.1
  have hne : ∀ (j : Nat) (hj : j < w.U.length), j ≠ k0 → ∀ hj2 : j < x.U.length, x.U[j] = w.U[j] := by
   rw [q3]
   exact fun j hj hjk hj2 => zlr hrk hk0 q4.1 hj hjk
  have hids : ∀ (j : Nat) (hj : j < w.U.length), w.U[j].id ≠ s.I[i] → j ≠ k0 := fun j hj hd e => hd (by subst e; exact q1)
  have hid2 : ∀ (j : Nat) (hj : j < w.U.length), w.U[j].id = s.I[i] → j = k0 := fun j hj hd => by
   rcases Nat.lt_trichotomy j k0 with g | g | g
   ·have := xq hrk g hk0
    omega
   ·exact g
   ·have := xq hrk g hj
    omega
  have hlen := zuq hw.1 hk0 q2 q4
  have hw2 := (mayF hw.1).hU
  refine zjf x (mayF q5.1).fits q5.2 _ _ (fun y2 hy2 => ?_)
  refine yj ?_
  refine zd (fun c3 => ?_) (fun c3 => absurd (hy2.2 q5.1) (by simp [c3]))
  refine bcne (fun c5 => absurd (show ((rws untC x.U).length : Int) = (rws untC w.U).length by rw [zi, zi, hxl]) c5) (fun c5 => ?_)
  refine AWp.loop (σ := Nat) ⟨fun k => [(1, .bx 1 0), (3, .bx 3 0), (4, .av (int (i : Nat))), (5, .bx 5 0), (7, .av (int (k : Nat)))], fun _ => [(1, zgi s), (3, wldC w), (5, wldC x)], fun k st2 => k ≤ w.U.length ∧ st2 = st', fun k => w.U.length - k⟩ zc ?_ ?_
  ·exact ⟨0, trivial, ⟨Nat.zero_le _, rfl⟩, ⟨lr_ _, lr_ _, lr_ _, lr_ _, lr_ _, trivial⟩, ⟨rfl, rfl, rfl, trivial⟩⟩
  rintro k st2 ⟨hk, rfl⟩
  dsimp only at hk ⊢
  refine zd (fun d1 => ?_) (fun d1 => ?_)
  rotate_left
  ·refine zas x (mayF q5.1).fits _ _ ?_
   refine in64 (by omega) ?_
   exact ⟨(i + 1, x), (show s.I.length - (i + 1) < s.I.length - i by omega), ⟨hlt, rfl, q5⟩, ⟨lr_ _, lr_ _, lr_ _, trivial⟩, ⟨rfl, rfl, trivial⟩⟩
  have hkl : k < w.U.length := xl d1
  have hkx : k < x.U.length := by omega
  refine ADraw.of_sched zc (by rfl) (by rfl) yip (by rfl) ?_
  refine ⟨k, rfl, za _ (zg hkl) ?_⟩
  refine ⟨k, rfl, za _ (zg hkx) ?_⟩
  refine ⟨⟨?_, ⟨⟨?_, ⟨⟨?_, ⟨⟨trivial, ?_⟩, trivial⟩⟩, trivial⟩⟩, trivial⟩⟩, ⟨⟨?_, ⟨⟨?_, ⟨⟨?_, ⟨⟨trivial, ?_⟩, trivial⟩⟩, trivial⟩⟩, trivial⟩⟩, trivial⟩⟩
  rotate_left 3
  rotate_left 1
  iterate 3 (
   ·repeat (first | exact trivial | refine ⟨rfl, ?_⟩ | refine ⟨⟨k, rfl, za _ (zg hkl) rfl⟩, ?_⟩ | refine ⟨⟨k, rfl, za _ (zg hkx) rfl⟩, ?_⟩))
  rotate_left 1
  iterate 3 (
   ·repeat (first | exact trivial | refine ⟨rfl, ?_⟩ | refine ⟨⟨k, rfl, za _ (zg hkl) rfl⟩, ?_⟩ | refine ⟨⟨k, rfl, za _ (zg hkx) rfl⟩, ?_⟩))
  all_goals
   refine ADraw.of_sched zc (by rfl) (by rfl) yio (by rfl) ?_
   refine ⟨i, rfl, za _ (zg hlt) ?_⟩
   refine bcne (fun d2 => ?_) (fun d2 => ?_)
   ·have he := hne k hkl (hids k hkl d2) hkx
    refine zd (fun d3 => ?_) (fun d3 => ?_)
    ·exfalso
     rw [he] at d3
     simp at d3
    refine in64 (by omega) ?_
    exact ⟨k + 1, (show w.U.length - (k + 1) < w.U.length - k by omega), ⟨hkl, rfl⟩, ⟨lr_ _, lr_ _, lr_ _, lr_ _, lr_ _, trivial⟩, ⟨rfl, rfl, rfl, trivial⟩⟩
   refine ADraw.of_sched zc (by rfl) (by rfl) yin (by rfl) ?_
   refine ⟨zgj x.U[k].pos w.U[k].pos (q5.2 _ (List.getElem_mem hkx)) (hw.2 _ (List.getElem_mem hkl)) _ _ ⟨(by repeat (first | exact trivial | refine ⟨rfl, ?_⟩ | refine ⟨optR (optR (optR (za _ (zb _ _ _) rfl))), ?_⟩)), ?_⟩, trivial⟩
   refine ⟨zrl _ (zut _ _) _ _ (fun r hr => ⟨(by repeat (first | exact trivial | refine ⟨rfl, ?_⟩ | refine ⟨optR (optR (optR (za _ (zb _ _ _) rfl))), ?_⟩)), ?_⟩), trivial⟩
   refine ⟨ku w.U[k].kind ((mayF hw.1).hk _ (List.getElem_mem hkl)) _ _ ⟨(by repeat (first | exact trivial | refine ⟨rfl, ?_⟩ | refine ⟨optR (optR (optR (za _ (zb _ _ _) rfl))), ?_⟩)), ?_⟩, trivial⟩
   have hk2 := hid2 k hkl d2
   subst hk2
   obtain ⟨hz0, hz1⟩ := hat
   rw [hz1] at hr
   have hrr := ze2 hr (v8 (ykh _))
   refine bcd (fun d3 => absurd d3 (by rw [hrr]; exact Int.not_lt.2 hlen)) (fun d3 => ?_)
   refine in64 (by omega) ?_
   exact ⟨k + 1, (show w.U.length - (k + 1) < w.U.length - k by omega), ⟨hkl, rfl⟩, ⟨lr_ _, lr_ _, lr_ _, lr_ _, lr_ _, trivial⟩, ⟨rfl, rfl, rfl, trivial⟩⟩
end Go.Proofs
namespace Go.Proofs.YtbemejeejgpkaaaGreat
open Go Go.V Go.ChangeShapes Go.WideShapes Go.ChangeAt Go.RowKit
theorem own : ownKnob Tryz.prog.godebug = none := by kernel_rfl
theorem laid : laidOutB Tryz.prog = true := by kernel_rfl
theorem agg_cells {P : Program} {w : World} {r : Reach} {base : Nat} {t : TypeId} {fs : Array Field} {v : Value} (ht : P.underlying t = some (.struct fs)) (h : Value.okWide P w r base t v) : ∃ cs, v = .agg cs := by
 simp only [Value.okWide, ht] at h
 cases v <;> simp_all [Cell.okWide, Cell.ok]
set_option maxRecDepth 100000 in
theorem moveKeeps_lifted (os : Os) (started : os.Started) (H : Type) (enc : TypeId × Value → H) :
  ReturnsInHanded {} Tryz.checked os 4 .any (Rows.moveKeepsSpec.pre6 enc Tryz.prog Tryz.f4 Rows.moveKeepsRow.domain false) (Rows.moveKeepsSpec.post enc Tryz.prog Tryz.f4 false true false false) := by
 refine returnsInHanded_of_change_sized (C := Tryz.checked) own started (by kernel_rfl) Tryz.func4
  (ChangeSpec.witness6 (enc := enc) (C := Tryz.checked) false ⟨#[], #[.agg #[.int .i64 0, .int .i64 0, .int .i64 0, .int .i64 0, .int .i64 0, .slice none 0 0, .slice none 0 0, .slice none 0 0, .slice none 0 0, .slice none 0 0]], []⟩ 8 (by kernel_rfl) (by kernel_rfl) (by kernel_rfl) (by kernel_rfl)) ?_
 intro W base args ds gs before hval0 hW hcnd hsz _
 have hval : ∀ (j : Nat) t v, Tryz.f4.params[j]? = some t → args[j]? = some v → Value.okWide Tryz.prog W .any base t v := hval0
 have hW' := hW
 obtain ⟨p, q, hA0, hV, rfl, hfz, hnd⟩ := hW
 have hA : DataW.TrodAll enc Tryz.prog W 0 (fun _ => true) true Tryz.f4.params.toList args.toList ds p := hA0
 rw [Tryz.params4] at hA hval
 obtain ⟨v, d, rfl, rfl, hd⟩ := trodAll_one hA
 obtain ⟨rfl, rfl⟩ := trodVars_none hV
 obtain ⟨fuel, hd0⟩ := hd
 have hw : ∀ n ∈ d.weights Tryz.prog 32, n ≤ reachBytes := fun n hn => by
  have h2 := List.all_eq_true.1 hsz n (DataW.weights_mem_each (j := 0) (t := 32) (d := d) (by rfl) (by rfl) n hn)
  simpa using h2
 obtain ⟨l, hl, hc⟩ := scr24_codec.out enc W 0 true fuel _ _ hd0 hw
 obtain ⟨cs, rfl⟩ := agg_cells Tryz.underlying32 (hval 0 _ v rfl rfl)
 have hv : VRel W T0 (.agg (zgi l)) (.agg cs) := by
  refine VRel.agg _ _ ?_ fun i x y hx hy => (hc.2 i x y hx ?_).1
  ·exact hc.1.trans (by simp [Value.cells])
  ·simpa [Value.cells] using hy
 have hlt : ∀ x ∈ p, x.block < W.heap.size := fun x hx => hW'.lt x (by simpa using hx)
 clear hA0 hval0
 refine (zfk Tryz.func4 rfl (by rfl) (R := fun r => r = V.bool true) (zhr l hl _ (fun r _ => r = V.bool true) rfl) hv).mono fun e W' ⟨r, u, he, hr, ⟨T, hvr⟩, hb⟩ => ?_
 subst hr
 have hu : u = .bool true := VRel.eq_s hvr
 subst hu
 subst he
 refine ⟨_, rfl, zls (pa := p) (pv := []) hW' (fun _ _ _ => trodAll_cons_mk (shut_bool Tryz.underlying4 _) trodAll_mk0) (fun sp hsp => ?_) (fun _ _ => rfl) rfl (Below.kept hb _) (Below.froz hb) (ok_one (by kernel_rfl) rfl (okWide_bool_mk Tryz.underlying4 _))⟩
 exact trodAll_mk1 (WideElems.Trod_stays laid (by kernel_rfl) (of_decide_eq_true (by kernel_rfl)) ⟨fuel, hd0⟩ (fun x hx => hb.same (hlt x hx)) (fun x hx => hsp x (by simpa using hx)))
set_option maxHeartbeats 4000000 in
theorem closed : joinedFacts Tryz.pinned.checked.prog 4 Tryz.f4 Rows.moveKeepsSpec Rows.moveKeepsRow = true := by
 unfold joinedFacts
 repeat (refine (Bool.and_eq_true_iff).2 ⟨?_, ?_⟩)
 all_goals (as_aux_lemma => kernel_rfl)
theorem moveKeeps_proved : Rows.MoveKeepsSaid :=
 OpenClaim.holds_of_wide 4 Tryz.f4 rfl rfl rfl rfl rfl rfl rfl ⟨rfl, rfl, rfl, rfl, rfl⟩ rfl rfl rfl rfl rfl (by kernel_rfl) Tryz.func4 closed
  (of_decide_eq_true (by kernel_rfl)) (by unfold Func.isWrapper; first | (rw [if_pos (by decide +kernel)]; kernel_rfl) | (rw [if_neg (by decide +kernel)]; exact ⟨rfl, rfl⟩))
  (fun os started H enc _ => moveKeeps_lifted os started H enc)
#print axioms moveKeeps_proved
end Go.Proofs.YtbemejeejgpkaaaGreat
