/- The ground on which laws of thronglaw24 are proved: contracts of functions and plain lemmas; no condition beyond the row's own. -/
import Derived.Test.YtbemejeejgpkaaaGreatRows
import Derived.Test.YtbemejeejgpkaaaGreatVJ
import Derived.Test.YtbemejeejgpkaaaGreatVI
import Derived.Test.YtbemejeejgpkaaaGreatSK
import Derived.Test.YtbemejeejgpkaaaGreatVH
import Derived.Test.YtbemejeejgpkaaaGreatSJ
set_option linter.unusedSimpArgs false
set_option linter.unusedVariables false
namespace Go.V
end Go.V
namespace Go.V
def gvG : Gnd := ⟨3, 1, [0, 0, 0]⟩
def gvD : List Int := [40, 20, 0]
def gvA (goal stuck state : Int) : Unt := { id := 1, owner := 1, kind := 1, pos := (32768, 32768), goal := goal, next := -1, stuck := stuck, inn := 0, state := state }
def gvB : Unt := { id := 2, owner := 1, kind := 1, pos := (98304, 32768), goal := -1, next := -1, stuck := 0, inn := 0, state := 0 }
def gvW (l : List Unt) : Wld := { tick := 0, players := 1, next := 9, G := gvG, B := [], U := l }
def gvS (n : Nat) : Wld := gvW [gvA 2 (n : Int) 1, gvB]
def gvE : Wld := gvW [gvA (-1) 0 4, gvB]
def gvF : Wld := gvW [gvA 0 0 1, gvB]
def gvH : Wld := gvW [gvA (-1) 0 2, gvB]
def gvI : Wld := gvW [gvA (-1) 0 2]
theorem zdz : ∀ n, n < 8 → mayP (gvS n) := by decide +kernel
theorem gv_may : (mayP gvE ∧ mayP gvF) ∧ (mayP gvH ∧ mayP gvI) := by decide +kernel
theorem yii : ∀ n, n < 8 → okU (gvS n) (gvA 2 (n : Int) 1) 2 = true ∧ zi0 (gvS n).G (okU (gvS n) (gvA 2 (n : Int) 1)) (kCls 1) 2 gvD = true := by decide +kernel
theorem yi5 : ∀ n, n < 7 → zo5 (gvS n) (gvA 2 (n : Int) 1) (atD gvD) = gvS (n + 1) := by decide +kernel
theorem yig : zo5 (gvS 7) (gvA 2 7 1) (atD gvD) = gvE := by decide +kernel
theorem gv_u {n : Nat} (hn : n < 8) : wu (gvS n) (gvA 2 (n : Int) 1) = zo5 (gvS n) (gvA 2 (n : Int) 1) (atD gvD) := by
 obtain ⟨h1, h2⟩ := yii n hn
 exact yce (zmc h1 h2)
theorem gv_cen : cenV gvG 0 = (32768, 32768) ∧ cenV gvG 1 = (98304, 32768) := by decide +kernel
theorem gv_f : wu gvF (gvA 0 0 1) = gvH := by
 have h1 : ¬ (gvA 0 0 1).goal = -1 := by decide
 have h2 : (gvA 0 0 1).pos = cenV gvF.G (gvA 0 0 1).goal.toNat := by decide +kernel
 have h3 : putU gvF (endU 2 (gvA 0 0 1)) = gvH := by decide +kernel
 unfold wu
 rw [if_neg h1]
 unfold zkr
 rw [if_pos h2]
 exact h3
theorem gv_i : wu gvI (gvA (-1) 0 2) = gvI := by
 have h1 : (gvA (-1) 0 2).goal = -1 := by decide
 have h2 : znq gvI (gvA (-1) 0 2) = gvI := by decide +kernel
 unfold wu
 rw [if_pos h1]
 exact h2
theorem ycr : gndP gvG := by decide +kernel
theorem zkp {l : List Unt} (hm : mayP (gvW l)) (h0 : ∀ u ∈ l, u.inn = 0) : playW (gvW l) := ⟨hm, fun u hu => ygk (zl3 hm hu (h0 u hu))⟩
theorem zl9 {n : Nat} (hn : n < 8) : playW (gvS n) := zkp (zdz n hn) (fun u hu => by
 simp at hu
 rcases hu with rfl | rfl <;> rfl)
theorem ybl : playW gvF := zkp gv_may.1.2 (by decide)
theorem gvI_play : playW gvI := zkp gv_may.2.2 (by decide)
end Go.V
namespace Go.Proofs
open Go Go.V
theorem zkk (w : Wld) (hw : playW w) (id : Int) (st : Store) (R : AV → Store → Prop)
  (hbad : askM w id ≠ 0 → R (.tup [.agg wld0, int (askM w id)]) st) (hok : askM w id = 0 → R (.tup [.agg (wldC (vd w id)), int 0]) st) :
  ACalls Tryz.prog 15 [.agg (wldC w), int id] st R :=
 zff w (mayF hw.1).fits hw.2 hw.sizes.1 hw.sizes.2.1 hw.sizes.2.2 id st R hbad hok
def wNil : Wld := ⟨0, 0, 0, ⟨0, 0, []⟩, [], []⟩
theorem ygm {a b c d : AV} (h : AV.le a c) (h' : AV.le b d) : AV.le (.tup [a, b]) (.tup [c, d]) := by
 intro w T v hv
 cases hv with
 | tup _ cs hl hc =>
  refine .tup _ cs hl fun i x y hx hy => ?_
  match i, hx with
  | 0, hx => cases hx; exact h w T y (hc 0 _ _ rfl hy)
  | 1, hx => cases hx; exact h' w T y (hc 1 _ _ rfl hy)
  | i + 2, hx => cases hx
/-- What move.Unit hands back. -/
noncomputable def mout (w : Wld) (id : Int) : Wld := if askM w id = 0 then vd w id else wNil
theorem wz (w : Wld) (hw : playW w) (id : Int) (x : Wld) (hx : mout w id = x) (e : Int) (he : askM w id = e) (st : Store) (R : AV → Store → Prop) (h : R (.tup [.agg (wldC x), int e]) st) : ACalls Tryz.prog 15 [.agg (wldC w), int id] st R := by
 subst hx
 subst he
 refine ACalls.post (R := fun r s => AV.le r (.tup [.agg (wldC (mout w id)), int (askM w id)]) ∧ s = st) (zkk w hw id st _ (fun q => ⟨ygm ?_ (ar_ _), rfl⟩) (fun q => ⟨?_, rfl⟩)) (Store.Le.refl st) (fun r s hr => ⟨_, s, hr.1, Store.Le.refl s, hr.2 ▸ h⟩)
 ·unfold mout
  rw [if_neg q]
  exact AV.le_aggL ⟨ar_ _, ar_ _, ar_ _, ar_ _, ar_ _, AV.le_nil 1, AV.le_nil 6, AV.le_nil 10, trivial⟩
 ·unfold mout
  rw [if_pos q, q]
  exact ar_ _
end Go.Proofs
namespace Go.Proofs
open Go Go.V
end Go.Proofs
namespace Go.Proofs
open Go Go.V
theorem zh1 (w : Wld) (hU : w.U.length ≤ 1000000) (id : Int) (st : Store) (R : AV → Store → Prop) (h : R (int (idxI (zd5 w.U id))) st) : ACalls Tryz.prog 29 [.agg (wldC w), int id] st R := zm5 w hU id st R h
theorem zka (w : Wld) (hw : playW w) {i : Nat} (hi : i < w.U.length) (id : Int) (hid : w.U[i].id = id) (st : Store) (R : AV → Store → Prop) (h : R (int (i : Nat)) st) : ACalls Tryz.prog 29 [.agg (wldC w), int id] st R :=
 zh1 w hw.sizes.2.2 id st R (by rw [ybu hw.1.1.2.1 hi hid]; exact h)
end Go.Proofs
namespace Go.Proofs
open Go Go.V
/-- move.Unit, and its units may still be written. -/
theorem zkl (w : Wld) (hw : playW w) (id : Int) (he : askM w id = 0) (x : Wld) (hx : vd w id = x) (hl : 0 < x.U.length) (R : AV → Store → Prop)
  (h : ∀ b cap L, x.U.length ≤ cap → R (.tup [.agg (wldV x (.s (.slice (some ⟨b, 0, none⟩) x.U.length cap))), int 0]) (Store.empty.setObj b (.cells ((rws untC x.U).flatten ++ L)))) :
  ACalls Tryz.prog 15 [.agg (wldC w), int id] Store.empty R := by
 subst hx
 refine ACalls.post (R := fun r S => ∃ v, RowsQ 10 untC S v (vd w id).U ∧ r = .tup [.agg (wldV (vd w id) v), int 0]) (zie w (mayF hw.1).fits hw.2 hw.sizes.1 hw.sizes.2.1 hw.sizes.2.2 id _ (fun S q => absurd he q) (fun S v _ hv => ⟨v, hv, rfl⟩)) (Store.Le.refl _) (fun r S hr => ?_)
 obtain ⟨v, hv, rfl⟩ := hr
 rcases hv with (⟨_, e⟩ | ⟨b, cap, L, rfl, ho, hc, _⟩) | ⟨a, _, _, e⟩
 ·rw [e] at hl; exact absurd hl (Nat.lt_irrefl 0)
 ·refine ⟨_, _, ar_ _, Store.Has.toLe ⟨fun b2 y hy => ?_, fun b2 y hy => by cases hy⟩, h b cap L hc⟩
  by_cases e : b2 = b
  ·subst e
   rw [zb] at hy
   cases hy
   exact ho
  ·rw [zf e] at hy
   cases hy
 ·rw [e] at hl; exact absurd hl (Nat.lt_irrefl 0)
theorem zl8 {l : List Unt} {u : Unt} (hm : mayP (gvW (u :: l))) (hid : u.id = 1) (h0 : u.inn = 0) : askM (gvW (u :: l)) 1 = 0 := by
 have : askM (gvW (u :: l)) u.id = if u.inn = 0 then 0 else 9 := zg8 hm (i := 0) (Nat.zero_lt_succ _)
 rw [hid, if_pos h0] at this
 exact this
theorem zgo {l : List Unt} {u : Unt} (hm : mayP (gvW (u :: l))) (hid : u.id = 1) : vd (gvW (u :: l)) 1 = wu (gvW (u :: l)) u := by
 have : vd (gvW (u :: l)) u.id = wu (gvW (u :: l)) u := zf2 hm.1.2.1 (i := 0) (Nat.zero_lt_succ _)
 rw [hid] at this
 exact this
theorem yih {n : Nat} (hn : n < 7) : askM (gvS n) 1 = 0 ∧ mout (gvS n) 1 = gvS (n + 1) := by
 have e : askM (gvS n) 1 = 0 := zl8 (zdz n (by omega)) rfl rfl
 refine ⟨e, ?_⟩
 unfold mout
 rw [if_pos e]
 exact (zgo (zdz n (by omega)) rfl).trans ((gv_u (by omega)).trans (yi5 n hn))
theorem ygx : askM (gvS 7) 1 = 0 ∧ vd (gvS 7) 1 = gvE :=
 ⟨zl8 (zdz 7 (by omega)) rfl rfl, (zgo (zdz 7 (by omega)) rfl).trans ((gv_u (n := 7) (by omega)).trans yig)⟩
theorem ygw : askM gvF 1 = 0 ∧ mout gvF 1 = gvH := by
 have e : askM gvF 1 = 0 := zl8 gv_may.1.2 rfl rfl
 refine ⟨e, ?_⟩
 unfold mout
 rw [if_pos e]
 exact (zgo gv_may.1.2 rfl).trans gv_f
theorem ygv : askM gvI 1 = 0 ∧ mout gvI 1 = gvI := by
 have e : askM gvI 1 = 0 := zl8 gv_may.2.2 rfl rfl
 refine ⟨e, ?_⟩
 unfold mout
 rw [if_pos e]
 exact (zgo gv_may.2.2 rfl).trans gv_i
def gvC (bv uv : AV) : List AV := [int 0, int 1, int 9, int 3, int 1, byts gvG.T, bv, uv]
theorem zq5 {l : List Unt} {bv : AV} (hb : AV.le bv (lst 6 bldC [])) : AV.le (.agg (gvC bv (lst 10 untC l))) (.agg (wldC (gvW l))) :=
 AV.le_aggL ⟨ar_ _, ar_ _, ar_ _, ar_ _, ar_ _, ar_ _, hb, ar_ _, trivial⟩
def yi6 (n : Nat) (uv : AV) (S : Store) : Prop := (n < 8 ∧ uv = lst 10 untC (gvS n).U ∧ S = Store.empty) ∨ (n = 8 ∧ ∃ b cap L, 2 ≤ cap ∧ uv = .s (.slice (some ⟨b, 0, none⟩) 2 cap) ∧ S = Store.empty.setObj b (.cells ((rws untC gvE.U).flatten ++ L)))
set_option maxHeartbeats 2000000 in
set_option maxRecDepth 20000 in
theorem zgd (s : Scr24) : ACalls Tryz.prog 6 [.agg (zhy s)] Store.empty (fun r _ => r = V.bool true) := by
 refine ACalls.of_awp (c := cfg 168) zc Tryz.func6 (by rfl) (by rfl) (by rfl) (by rfl) ?_
 refine AWp.seq (AWp.of_vc zc ?_)
 refine AWp.seq (AWp.of_vc zc ?_)
 refine xq rfl (it := ti22) (ie := ti5) rfl rfl rfl rfl rfl (n := 3) (by decide) (by decide) (fun b hf => ?_)
 refine AWp.freezeBx (d := 3) (j := 2) (b := b) (n := 3) (cap := 3) (k := 1) (rows := rws u8C gvG.T) (pad := []) rfl rfl (zb _ _ _) hf.2 rfl (Nat.le_refl _) ?_ ?_ ?_
 ·intro row hr
  obtain ⟨x, _, rfl⟩ := List.mem_map.1 hr
  rfl
 ·intro row hr y hy
  obtain ⟨x, _, rfl⟩ := List.mem_map.1 hr
  simp [u8C, u8] at hy
  exact ⟨_, hy, rfl⟩
 rw [xj hf.1]
 refine AWp.seq (AWp.of_vc zc ?_)
 refine AWp.seq (AWp.of_vc zc ?_)
 refine ADraw.of_sched zc (by rfl) (by rfl) yh5 (by rfl) ?_
 refine ⟨zba gvG ycr 0 (by decide) 0 rfl gv_cen.1 _ _ ⟨(by repeat (first | exact trivial | refine ⟨rfl, ?_⟩ | refine ⟨optR (optR (optR (za _ (zb _ _ _) rfl))), ?_⟩)), ?_⟩, trivial⟩
 refine ⟨zba gvG ycr 1 (by decide) 1 rfl gv_cen.2 _ _ ⟨(by repeat (first | exact trivial | refine ⟨rfl, ?_⟩ | refine ⟨optR (optR (optR (za _ (zb _ _ _) rfl))), ?_⟩)), ?_⟩, trivial⟩
 refine ⟨by decide, ?_⟩
 refine ⟨⟨(by repeat (first | exact trivial | refine ⟨rfl, ?_⟩ | refine ⟨optR (optR (optR (za _ (zb _ _ _) rfl))), ?_⟩)), ?_⟩, trivial⟩
 refine AWp.seq ?_
 refine AWp.seq (AWp.of_vc zc ?_)
 refine AWp.block ?_
 refine AWp.loopA (σ := Nat × AV × AV × Store) ⟨fun x => [(1, .bx 1 0), (4, .bx 4 0), (5, .av (int ((x.1 + 1 : Nat) : Int)))], fun x => [(1, zhy s), (4, gvC x.2.1 x.2.2.1)], fun x st' => st' = x.2.2.2 ∧ AV.le x.2.1 (lst 6 bldC []) ∧ yi6 x.1 x.2.2.1 x.2.2.2, fun x => 8 - x.1⟩ ?_ ?_
 ·exact ⟨(0, nil, lst 10 untC (gvS 0).U, Store.empty), trivial, ⟨rfl, AV.le_nil 6, .inl ⟨by decide, rfl, rfl⟩⟩, ⟨lr_ _, lr_ _, lr_ _, trivial⟩, ⟨rfl, rfl, trivial⟩⟩
 rintro ⟨n, bv, uv, S⟩ st' ⟨rfl, hb, hinv⟩
 dsimp only at hb hinv ⊢
 refine AWp.seq (AWp.of_vc zc ?_)
 refine bcd (fun c1 => ?_) (fun c1 => ?_)
 ·rcases hinv with ⟨hn, rfl, rfl⟩ | ⟨rfl, _⟩
  rotate_left
  ·exact absurd c1 (by decide)
  refine AWp.of_vc zc ?_
  by_cases h7 : n = 7
  ·subst h7
   obtain ⟨m1, m2⟩ := ygx
   refine ACalls.le (show leL [.agg (gvC bv (lst 10 untC (gvS 7).U)), int 1] [.agg (wldC (gvS 7)), int 1] from ⟨zq5 hb, ar_ _, trivial⟩) (zkl (gvS 7) (zl9 (by decide)) 1 m1 gvE m2 (by decide) _ (fun b2 cap L hcap => ?_))
   refine ADraw.of_sched zc (by rfl) (by rfl) ycj (by rfl) ?_
   refine ⟨kc _ _ _ ⟨(by repeat (first | exact trivial | refine ⟨rfl, ?_⟩ | refine ⟨optR (optR (optR (za _ (zb _ _ _) rfl))), ?_⟩)), ?_⟩, trivial⟩
   refine ⟨0, rfl, by decide, ?_⟩
   refine za (o := (Store.empty.setObj b2 (.cells ((rws untC gvE.U).flatten ++ L))).obj b2) _ (zb _ _ _) ?_
   refine ⟨0, rfl, za _ (zk (show 0 < (gvS 7).U.length by decide)) ?_⟩
   refine in64 (by decide) ?_
   refine ⟨(8, lst 6 bldC [], .s (.slice (some ⟨b2, 0, none⟩) 2 cap), Store.empty.setObj b2 (.cells ((rws untC gvE.U).flatten ++ L))), (show 8 - 8 < 8 - 7 by decide), ⟨rfl, ar_ _, .inr ⟨rfl, b2, cap, L, hcap, rfl, rfl⟩⟩, ⟨lr_ _, lr_ _, lr_ _, trivial⟩, ⟨rfl, rfl, trivial⟩⟩
  have hc : n = 0 ∨ n = 1 ∨ n = 2 ∨ n = 3 ∨ n = 4 ∨ n = 5 ∨ n = 6 := by omega
  obtain ⟨m1, m2⟩ := yih (n := n) (by omega)
  have l0 : ∀ n, 0 < (gvS n).U.length := fun n => (show 0 < 2 by decide)
  refine ACalls.le (show leL [.agg (gvC bv (lst 10 untC (gvS n).U)), int 1] [.agg (wldC (gvS n)), int 1] from ⟨zq5 hb, ar_ _, trivial⟩) (wz (gvS n) (zl9 hn) 1 _ m2 _ m1 _ _ ?_)
  clear m1 m2 h7 c1
  rcases hc with rfl | rfl | rfl | rfl | rfl | rfl | rfl
  all_goals
   refine ADraw.of_sched zc (by rfl) (by rfl) ycj (by rfl) ?_
   refine ⟨kc _ _ _ ⟨(by repeat (first | exact trivial | refine ⟨rfl, ?_⟩ | refine ⟨optR (optR (optR (za _ (zb _ _ _) rfl))), ?_⟩)), ?_⟩, trivial⟩
   refine ⟨0, rfl, za _ (zk (l0 _)) ?_⟩
   refine ⟨0, rfl, za _ (zk (l0 _)) ?_⟩
   refine ⟨0, rfl, za _ (zk (l0 _)) ?_⟩
   refine ⟨0, rfl, za _ (zk (l0 _)) ?_⟩
   refine in64 (by decide) ?_
  ·exact ⟨(1, lst 6 bldC [], lst 10 untC (gvS 1).U, Store.empty), (show 8 - 1 < 8 - 0 by decide), ⟨rfl, ar_ _, .inl ⟨by omega, rfl, rfl⟩⟩, ⟨lr_ _, lr_ _, lr_ _, trivial⟩, ⟨rfl, rfl, trivial⟩⟩
  ·exact ⟨(2, lst 6 bldC [], lst 10 untC (gvS 2).U, Store.empty), (show 8 - 2 < 8 - 1 by decide), ⟨rfl, ar_ _, .inl ⟨by omega, rfl, rfl⟩⟩, ⟨lr_ _, lr_ _, lr_ _, trivial⟩, ⟨rfl, rfl, trivial⟩⟩
  ·exact ⟨(3, lst 6 bldC [], lst 10 untC (gvS 3).U, Store.empty), (show 8 - 3 < 8 - 2 by decide), ⟨rfl, ar_ _, .inl ⟨by omega, rfl, rfl⟩⟩, ⟨lr_ _, lr_ _, lr_ _, trivial⟩, ⟨rfl, rfl, trivial⟩⟩
  ·exact ⟨(4, lst 6 bldC [], lst 10 untC (gvS 4).U, Store.empty), (show 8 - 4 < 8 - 3 by decide), ⟨rfl, ar_ _, .inl ⟨by omega, rfl, rfl⟩⟩, ⟨lr_ _, lr_ _, lr_ _, trivial⟩, ⟨rfl, rfl, trivial⟩⟩
  ·exact ⟨(5, lst 6 bldC [], lst 10 untC (gvS 5).U, Store.empty), (show 8 - 5 < 8 - 4 by decide), ⟨rfl, ar_ _, .inl ⟨by omega, rfl, rfl⟩⟩, ⟨lr_ _, lr_ _, lr_ _, trivial⟩, ⟨rfl, rfl, trivial⟩⟩
  ·exact ⟨(6, lst 6 bldC [], lst 10 untC (gvS 6).U, Store.empty), (show 8 - 6 < 8 - 5 by decide), ⟨rfl, ar_ _, .inl ⟨by omega, rfl, rfl⟩⟩, ⟨lr_ _, lr_ _, lr_ _, trivial⟩, ⟨rfl, rfl, trivial⟩⟩
  ·exact ⟨(7, lst 6 bldC [], lst 10 untC (gvS 7).U, Store.empty), (show 8 - 7 < 8 - 6 by decide), ⟨rfl, ar_ _, .inl ⟨by omega, rfl, rfl⟩⟩, ⟨lr_ _, lr_ _, lr_ _, trivial⟩, ⟨rfl, rfl, trivial⟩⟩
 rcases hinv with ⟨hn, _⟩ | ⟨rfl, b2, cap, L, hcap, rfl, rfl⟩
 ·exact absurd (show ((n + 1 : Nat) : Int) ≤ 8 by omega) c1
 refine AWp.seq (AWp.of_vc zc ?_)
 refine ⟨0, rfl, by decide, ?_⟩
 refine za (o := (Store.empty.setObj b2 (.cells ((rws untC gvE.U).flatten ++ L))).obj b2) _ (zb _ _ _) ?_
 refine AWp.seq (AWp.of_vc zc ?_)
 refine AWp.seq (AWp.of_vc zc ?_)
 refine ADraw.of_sched zc (by rfl) (by rfl) yfx (by rfl) ?_
 refine ⟨0, rfl, by decide, ?_⟩
 refine ⟨?_, trivial⟩
 refine za _ rfl (zr rfl (zx (v := int 0) rfl rfl rfl rfl ?_))
 refine zn (i := ti3) (v := int 0) (b := b2) (o := 0 + 0 * 10 + 5) (l := (rws untC gvE.U).flatten ++ L) (st2 := Store.empty.setObj b2 (.cells ((rws untC [gvA 0 0 4, gvB]).flatten ++ L))) rfl rfl rfl (zb _ _ _) ?_ ?_ ?_
 ·rw [List.length_append]
  exact Nat.le_add_right_of_le (show 6 ≤ 20 by decide)
 ·rw [zg]
  rfl
 refine ⟨(by repeat (first | exact trivial | refine ⟨rfl, ?_⟩ | refine ⟨optR (optR (optR (za _ (zb _ _ _) rfl))), ?_⟩)), ?_⟩
 refine ⟨0, rfl, by decide, ?_⟩
 refine ⟨?_, trivial⟩
 refine za _ rfl (zr rfl (zx (v := int 1) rfl rfl rfl rfl ?_))
 refine zn (i := ti3) (v := int 1) (b := b2) (o := 0 + 0 * 10 + 9) (l := (rws untC [gvA 0 0 4, gvB]).flatten ++ L) (st2 := Store.empty.setObj b2 (.cells ((rws untC gvF.U).flatten ++ L))) rfl rfl rfl (zb _ _ _) ?_ ?_ ?_
 ·rw [List.length_append]
  exact Nat.le_add_right_of_le (show 10 ≤ 20 by decide)
 ·rw [zg]
  rfl
 refine ⟨trivial, ?_⟩
 refine AWp.freezeBx (d := 4) (j := 7) (b := b2) (n := 2) (cap := cap) (k := 10) (rows := rws untC gvF.U) (pad := L) rfl rfl (zb _ _ _) rfl rfl hcap ?_ ?_ ?_
 ·intro row hr
  obtain ⟨x, _, rfl⟩ := List.mem_map.1 hr
  rfl
 ·intro row hr y hy
  obtain ⟨x, _, rfl⟩ := List.mem_map.1 hr
  simp [untC, vecC, int] at hy
  rcases hy with rfl | rfl | rfl | rfl | rfl | rfl | rfl | rfl | rfl | rfl <;> exact ⟨_, rfl, rfl⟩
 rw [xj (st := Store.empty) rfl]
 refine AWp.seq (AWp.of_vc zc ?_)
 obtain ⟨m1, m2⟩ := ygw
 refine ACalls.le (show leL [.agg (gvC bv (lst 10 untC gvF.U)), int 1] [.agg (wldC gvF), int 1] from ⟨zq5 hb, ar_ _, trivial⟩) (wz gvF ybl 1 _ m2 _ m1 _ _ ?_)
 refine AWp.seq (AWp.of_vc zc ?_)
 refine kc _ _ _ ?_
 refine ⟨0, rfl, za _ (zk (show 0 < gvH.U.length by decide)) ?_⟩
 refine ⟨0, rfl, za _ (zk (show 0 < gvH.U.length by decide)) ?_⟩
 refine AWp.of_vc zc ?_
 refine ⟨0, 1, rfl, rfl, by decide, by decide, ?_⟩
 obtain ⟨m3, m4⟩ := ygv
 refine ACalls.le (show leL [.agg (wldC gvI), int 1] [.agg (wldC gvI), int 1] from ⟨ar_ _, ar_ _, trivial⟩) (wz gvI gvI_play 1 _ m4 _ m3 _ _ ?_)
 refine kc _ _ _ ?_
 refine ACalls.le (show leL [.agg (wldC gvI), .agg (wldC gvI)] [.agg (wldC gvI), .agg (wldC gvI)] from ⟨ar_ _, ar_ _, trivial⟩) (zi3 gvI (mayF gvI_play.1).fits _ _ ?_)
 refine zm3 1 (by decide) _ _ ?_
 refine zka gvI gvI_play (i := 0) (by decide) 1 rfl _ _ ?_
 exact zhe _ _ (ret rfl)
theorem zgc (s : Scr24) (st : Store) (R : AV → Store → Prop) (h : R (V.bool true) st) : ACalls Tryz.prog 6 [.agg (zhy s)] st R :=
 ygl (zgd s) st R fun r hr => hr ▸ h
end Go.Proofs
namespace Go.Proofs.YtbemejeejgpkaaaGreat
open Go Go.V Go.ChangeShapes Go.WideShapes Go.ChangeAt Go.RowKit
theorem own : ownKnob Tryz.prog.godebug = none := by kernel_rfl
theorem laid : laidOutB Tryz.prog = true := by kernel_rfl
theorem agg_cells {P : Program} {w : World} {r : Reach} {base : Nat} {t : TypeId} {fs : Array Field} {v : Value} (ht : P.underlying t = some (.struct fs)) (h : Value.okWide P w r base t v) : ∃ cs, v = .agg cs := by
 simp only [Value.okWide, ht] at h
 cases v <;> simp_all [Cell.okWide, Cell.ok]
set_option maxRecDepth 100000 in
theorem moveGives_lifted (os : Os) (started : os.Started) (H : Type) (enc : TypeId × Value → H) :
  ReturnsInHanded {} Tryz.checked os 6 .any (Rows.moveGivesSpec.pre6 enc Tryz.prog Tryz.f6 Rows.moveGivesRow.domain false) (Rows.moveGivesSpec.post enc Tryz.prog Tryz.f6 false true false false) := by
 refine returnsInHanded_of_change_sized (C := Tryz.checked) own started (by kernel_rfl) Tryz.func6
  (ChangeSpec.witness6 (enc := enc) (C := Tryz.checked) false ⟨#[], #[.agg #[.int .i64 0, .int .i64 0, .int .i64 0, .int .i64 0, .int .i64 0, .slice none 0 0, .slice none 0 0, .slice none 0 0, .slice none 0 0, .slice none 0 0]], []⟩ 8 (by kernel_rfl) (by kernel_rfl) (by kernel_rfl) (by kernel_rfl)) ?_
 intro W base args ds gs before hval0 hW hcnd hsz _
 have hval : ∀ (j : Nat) t v, Tryz.f6.params[j]? = some t → args[j]? = some v → Value.okWide Tryz.prog W .any base t v := hval0
 have hW' := hW
 obtain ⟨p, q, hA0, hV, rfl, hfz, hnd⟩ := hW
 have hA : DataW.TrodAll enc Tryz.prog W 0 (fun _ => true) true Tryz.f6.params.toList args.toList ds p := hA0
 rw [Tryz.params6] at hA hval
 obtain ⟨v, d, rfl, rfl, hd⟩ := trodAll_one hA
 obtain ⟨rfl, rfl⟩ := trodVars_none hV
 obtain ⟨fuel, hd0⟩ := hd
 have hw : ∀ n ∈ d.weights Tryz.prog 32, n ≤ reachBytes := fun n hn => by
  have h2 := List.all_eq_true.1 hsz n (DataW.weights_mem_each (j := 0) (t := 32) (d := d) (by rfl) (by rfl) n hn)
  simpa using h2
 obtain ⟨l, hl, hc⟩ := scr24_codec.out enc W 0 true fuel _ _ hd0 hw
 obtain ⟨cs, rfl⟩ := agg_cells Tryz.underlying32 (hval 0 _ v rfl rfl)
 have hv : VRel W T0 (.agg (zhy l)) (.agg cs) := by
  refine VRel.agg _ _ ?_ fun i x y hx hy => (hc.2 i x y hx ?_).1
  ·exact hc.1.trans (by simp [Value.cells])
  ·simpa [Value.cells] using hy
 have hlt : ∀ x ∈ p, x.block < W.heap.size := fun x hx => hW'.lt x (by simpa using hx)
 clear hA0 hval0
 refine (zed Tryz.func6 rfl (by rfl) (R := fun r => r = V.bool true) (zgc l _ (fun r _ => r = V.bool true) rfl) hv).mono fun e W' ⟨r, u, he, hr, ⟨T, hvr⟩, hb⟩ => ?_
 subst hr
 have hu : u = .bool true := VRel.eq_s hvr
 subst hu
 subst he
 refine ⟨_, rfl, zkc (pa := p) (pv := []) hW' (fun _ _ _ => trodAll_cons_mk (shut_bool Tryz.underlying4 _) trodAll_mk0) (fun sp hsp => ?_) (fun _ _ => rfl) rfl (Below.kept hb _) (Below.froz hb) (ok_one (by kernel_rfl) rfl (okWide_bool_mk Tryz.underlying4 _))⟩
 exact trodAll_mk1 (WideElems.Trod_stays laid (by kernel_rfl) (of_decide_eq_true (by kernel_rfl)) ⟨fuel, hd0⟩ (fun x hx => hb.same (hlt x hx)) (fun x hx => hsp x (by simpa using hx)))
set_option maxHeartbeats 4000000 in
theorem closed : joinedFacts Tryz.pinned.checked.prog 6 Tryz.f6 Rows.moveGivesSpec Rows.moveGivesRow = true := by
 unfold joinedFacts
 repeat (refine (Bool.and_eq_true_iff).2 ⟨?_, ?_⟩)
 all_goals (as_aux_lemma => kernel_rfl)
theorem moveGives_proved : Rows.MoveGivesSaid :=
 OpenClaim.holds_of_wide 6 Tryz.f6 rfl rfl rfl rfl rfl rfl rfl ⟨rfl, rfl, rfl, rfl, rfl⟩ rfl rfl rfl rfl rfl (by kernel_rfl) Tryz.func6 closed
  (of_decide_eq_true (by kernel_rfl)) (by unfold Func.isWrapper; first | (rw [if_pos (by decide +kernel)]; kernel_rfl) | (rw [if_neg (by decide +kernel)]; exact ⟨rfl, rfl⟩))
  (fun os started H enc _ => moveGives_lifted os started H enc)
#print axioms moveGives_proved
end Go.Proofs.YtbemejeejgpkaaaGreat
