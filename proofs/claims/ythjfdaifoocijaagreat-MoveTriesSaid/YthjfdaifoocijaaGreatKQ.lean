/- Ground of laws of thronglaw24: contracts and plain lemmas; no condition beyond the row's own. -/
import Derived.Test.YthjfdaifoocijaaGreatKP
import Derived.Test.YthjfdaifoocijaaGreatKJ
set_option linter.unusedSimpArgs false
set_option linter.unusedVariables false
namespace Go.Proofs
open Go Go.V
set_option maxRecDepth 4000
theorem zs5 (l : List UInt8) (hl : l.length <= 1000000000000) (st : Store) (R : AV -> Store -> Prop) (h : R (lst 1 u8C l) st) : ACalls Tryz.prog 86 [lst 1 u8C l] st R := by
 refine ACalls.of_body (c := cfg 19) zb Tryz.func86 (by rfl) (by rfl) (by rfl) (by rfl) ?_
 refine AWp.loop (σ := Nat × AV) ⟨fun s => [(0, .av (lst 1 u8C l)), (3, .av s.2), (4, .av (int s.1))], fun _ => [], fun s st' => s.1 <= l.length /\ App 1 st s.2 (rws u8C (l.take s.1)) st', fun s => l.length - s.1⟩ zb ?_ ?_
 ·exact ⟨(0, _), Tv, ⟨Nat.zero_le _, App.start 1 st⟩, ⟨Tq, Tq, Tq, Tv⟩, Tv⟩
 ·rintro ⟨i, v⟩ st' ⟨hi, ha⟩
  simp only at hi
  refine zg (fun h1 => ?_) (fun h1 => ?_)
  ·have hlt : i < l.length := qy h1
   refine ⟨i, rfl, za _ (zj hlt) ?_⟩
   refine ⟨by decide, ?_⟩
   refine Cu (ie := ti5) (rows' := [u8C l[i]]) ha ?_ ?_ ⟨?_, ?_⟩ (fun v2 st2 ha2 => ?_)
   ·rfl
   ·rfl
   ·simp [zu, ti5]; omega
   ·simp [zu]; omega
   ·refine ⟨⟨by omega, by omega⟩, ?_⟩
    refine ⟨(i + 1, v2), ?_, ⟨hlt, ?_⟩, ⟨Tq, Tq, Tq, Tv⟩, Tv⟩
    ·show l.length - (i + 1) < l.length - i
     omega
    ·rw [<- Nj hlt]; exact ha2
  ·have hge : i = l.length := jh h1 hi
   subst hge
   refine ⟨_, st, AV.le_trans ha.le ?_, ha.has, h⟩
   rw [List.take_length]
   exact Tt
theorem dw (l : List Bld) (hl : l.length <= 1000000000000) (st : Store) (R : AV -> Store -> Prop) (h : R (lst 6 zp l) st) : ACalls Tryz.prog 45 [lst 6 zp l] st R := by
 refine ACalls.of_body (c := cfg 19) zb Tryz.func45 (by rfl) (by rfl) (by rfl) (by rfl) ?_
 refine AWp.loop (σ := Nat × AV) ⟨fun s => [(0, .av (lst 6 zp l)), (3, .av s.2), (4, .av (int s.1))], fun _ => [], fun s st' => s.1 <= l.length /\ App 6 st s.2 (rws zp (l.take s.1)) st', fun s => l.length - s.1⟩ zb ?_ ?_
 ·exact ⟨(0, _), Tv, ⟨Nat.zero_le _, App.start 6 st⟩, ⟨Tq, Tq, Tq, Tv⟩, Tv⟩
 ·rintro ⟨i, v⟩ st' ⟨hi, ha⟩
  simp only at hi
  refine zg (fun h1 => ?_) (fun h1 => ?_)
  ·have hlt : i < l.length := qy h1
   refine ⟨i, rfl, za _ (zj hlt) ?_⟩
   refine ⟨by decide, ?_⟩
   refine Cu (ie := ti164) (rows' := [zp l[i]]) ha ?_ ?_ ⟨?_, ?_⟩ (fun v2 st2 ha2 => ?_)
   ·rfl
   ·rfl
   ·simp [zu, ti164]; omega
   ·simp [zu]; omega
   ·refine ⟨⟨by omega, by omega⟩, ?_⟩
    refine ⟨(i + 1, v2), ?_, ⟨hlt, ?_⟩, ⟨Tq, Tq, Tq, Tv⟩, Tv⟩
    ·show l.length - (i + 1) < l.length - i
     omega
    ·rw [<- Nj hlt]; exact ha2
  ·have hge : i = l.length := jh h1 hi
   subst hge
   refine ⟨_, st, AV.le_trans ha.le ?_, ha.has, h⟩
   rw [List.take_length]
   exact Tt
theorem zs2 (l : List Unt) (hl : l.length <= 1000000000000) (st : Store) (R : AV -> Store -> Prop) (h : R (lst 10 ze l) st) : ACalls Tryz.prog 12 [lst 10 ze l] st R := by
 refine ACalls.of_body (c := cfg 19) zb Tryz.func12 (by rfl) (by rfl) (by rfl) (by rfl) ?_
 refine AWp.loop (σ := Nat × AV) ⟨fun s => [(0, .av (lst 10 ze l)), (3, .av s.2), (4, .av (int s.1))], fun _ => [], fun s st' => s.1 <= l.length /\ App 10 st s.2 (rws ze (l.take s.1)) st', fun s => l.length - s.1⟩ zb ?_ ?_
 ·exact ⟨(0, _), Tv, ⟨Nat.zero_le _, App.start 10 st⟩, ⟨Tq, Tq, Tq, Tv⟩, Tv⟩
 ·rintro ⟨i, v⟩ st' ⟨hi, ha⟩
  simp only at hi
  refine zg (fun h1 => ?_) (fun h1 => ?_)
  ·have hlt : i < l.length := qy h1
   refine ⟨i, rfl, za _ (zj hlt) ?_⟩
   refine ⟨by decide, ?_⟩
   refine Cu (ie := ti37) (rows' := [ze l[i]]) ha ?_ ?_ ⟨?_, ?_⟩ (fun v2 st2 ha2 => ?_)
   ·rfl
   ·rfl
   ·simp [zu, ti37]; omega
   ·simp [zu]; omega
   ·refine ⟨⟨by omega, by omega⟩, ?_⟩
    refine ⟨(i + 1, v2), ?_, ⟨hlt, ?_⟩, ⟨Tq, Tq, Tq, Tv⟩, Tv⟩
    ·show l.length - (i + 1) < l.length - i
     omega
    ·rw [<- Nj hlt]; exact ha2
  ·have hge : i = l.length := jh h1 hi
   subst hge
   refine ⟨_, st, AV.le_trans ha.le ?_, ha.has, h⟩
   rw [List.take_length]
   exact Tt
theorem dv (g : Gnd) (hg : g.fits) (st : Store) (R : AV -> Store -> Prop) (h : R (.agg (zt g)) st) : ACalls Tryz.prog 44 [.agg (zt g)] st R := by
 refine ACalls.of_body (c := cfg 10) zb Tryz.func44 (by rfl) (by rfl) (by rfl) (by rfl) ?_
 refine zs5 g.T hg _ _ ?_
 exact ret h
theorem zs0 (w : Wld) (hw : w.fits) (st : Store) (R : AV -> Store -> Prop) (h : R (.agg (zr w)) st) : ACalls Tryz.prog 13 [.agg (zr w)] st R := by
 refine ACalls.of_body (c := cfg 18) zb Tryz.func13 (by rfl) (by rfl) (by rfl) (by rfl) ?_
 refine dv w.G hw.1 _ _ ?_
 refine dw w.B hw.2.1 _ _ ?_
 refine zs2 w.U hw.2.2 _ _ ?_
 exact ret h
theorem zry (a b : List UInt8) (ha : a.length <= 1000000000000) (st : Store) (R : AV -> Store -> Prop) (h : R (bool (decide (a = b))) st) : ACalls Tryz.prog 96 [lst 1 u8C a, lst 1 u8C b] st R := by
 refine ACalls.of_body (c := cfg 26) zb Tryz.func96 (by rfl) (by rfl) (by rfl) (by rfl) ?_
 refine zg (fun h1 => ?_) (fun h1 => ?_)
 ·have : a ≠ b := fun h2 => N6 h1 (by rw [h2])
  rw [show decide (a = b) = false by simp [this]] at h
  exact ⟨_, st, Tt, Store.Has.refl st, h⟩
 ·have hl : a.length = b.length := Pd h1
  refine AWp.loop (σ := Nat) ⟨fun i => [(0, .av (lst 1 u8C a)), (1, .av (lst 1 u8C b)), (5, .av (int i))], fun _ => [], fun i st' => i <= a.length /\ a.take i = b.take i /\ st' = st, fun i => a.length - i⟩ zb ?_ ?_
  ·exact ⟨0, Tv, ⟨Nat.zero_le _, rfl, rfl⟩, ⟨Tq, Tq, Tq, Tv⟩, Tv⟩
  ·rintro i st' ⟨hi, heq, hst⟩
   refine zg (fun h2 => ?_) (fun h2 => ?_)
   ·have hlt : i < a.length := qy h2
    have hltb : i < b.length := by omega
    refine ADraw.of_sched zb (by rfl) (by rfl) ziw (by rfl) ?_
    refine ⟨i, rfl, za _ (zj hlt) ?_⟩
    refine ⟨i, rfl, za _ (zj hltb) ?_⟩
    refine zg (fun h3 => ?_) (fun h3 => ?_)
    ·have hne : a[i] ≠ b[i] := by
      intro h4
      rw [h4] at h3
      simp at h3
     have : a ≠ b := by
      intro h4
      subst h4
      exact hne rfl
     rw [show decide (a = b) = false by simp [this]] at h
     subst hst
     exact ⟨_, st', Tt, Store.Has.refl st', h⟩
    ·refine ⟨⟨by omega, by omega⟩, ?_⟩
     refine ⟨i + 1, ?_, ⟨hlt, ?_, hst⟩, ⟨Tq, Tq, Tq, Tv⟩, Tv⟩
     ·show a.length - (i + 1) < a.length - i
      omega
     ·rw [List.take_succ_eq_append_getElem hlt, List.take_succ_eq_append_getElem hltb, heq]
      have : a[i] = b[i] := UInt8.toNat_inj.1 (by have := h3; simp at this; omega)
      rw [this]
   ·have hge : i = a.length := jh h2 hi
    subst hge hst
    have : a = b := by
     rw [List.take_length, hl, List.take_length] at heq
     exact heq
    rw [show decide (a = b) = true by simp [this]] at h
    exact ⟨_, st', Tt, Store.Has.refl st', h⟩
theorem zrz (a b : List Bld) (ha : a.length <= 1000000000000) (st : Store) (R : AV -> Store -> Prop) (h : R (bool (decide (a = b))) st) : ACalls Tryz.prog 54 [lst 6 zp a, lst 6 zp b] st R := by
 refine ACalls.of_body (c := cfg 26) zb Tryz.func54 (by rfl) (by rfl) (by rfl) (by rfl) ?_
 refine zg (fun h1 => ?_) (fun h1 => ?_)
 ·have : a ≠ b := fun h2 => N6 h1 (by rw [h2])
  rw [show decide (a = b) = false by simp [this]] at h
  exact ⟨_, st, Tt, Store.Has.refl st, h⟩
 ·have hl : a.length = b.length := Pd h1
  refine AWp.loop (σ := Nat) ⟨fun i => [(0, .av (lst 6 zp a)), (1, .av (lst 6 zp b)), (5, .av (int i))], fun _ => [], fun i st' => i <= a.length /\ a.take i = b.take i /\ st' = st, fun i => a.length - i⟩ zb ?_ ?_
  ·exact ⟨0, Tv, ⟨Nat.zero_le _, rfl, rfl⟩, ⟨Tq, Tq, Tq, Tv⟩, Tv⟩
  ·rintro i st' ⟨hi, heq, hst⟩
   refine zg (fun h2 => ?_) (fun h2 => ?_)
   ·have hlt : i < a.length := qy h2
    have hltb : i < b.length := by omega
    refine ADraw.of_sched zb (by rfl) (by rfl) zi6 (by rfl) ?_
    refine ⟨i, rfl, za _ (zj hlt) ?_⟩
    refine ⟨i, rfl, za _ (zj hltb) ?_⟩
    refine zg (fun h3 => ?_) (fun h3 => ?_)
    ·have hne : a[i] ≠ b[i] := by
      intro h4
      rw [h4] at h3
      simp at h3
     have : a ≠ b := by
      intro h4
      subst h4
      exact hne rfl
     rw [show decide (a = b) = false by simp [this]] at h
     subst hst
     exact ⟨_, st', Tt, Store.Has.refl st', h⟩
    ·refine ⟨⟨by omega, by omega⟩, ?_⟩
     refine ⟨i + 1, ?_, ⟨hlt, ?_, hst⟩, ⟨Tq, Tq, Tq, Tv⟩, Tv⟩
     ·show a.length - (i + 1) < a.length - i
      omega
     ·rw [List.take_succ_eq_append_getElem hlt, List.take_succ_eq_append_getElem hltb, heq]
      have : a[i] = b[i] := by cases hx : a[i]; cases hy : b[i]; rw [hx, hy] at h3; simp at h3; simp [h3]
      rw [this]
   ·have hge : i = a.length := jh h2 hi
    subst hge hst
    have : a = b := by
     rw [List.take_length, hl, List.take_length] at heq
     exact heq
    rw [show decide (a = b) = true by simp [this]] at h
    exact ⟨_, st', Tt, Store.Has.refl st', h⟩
theorem zrv (a b : List Unt) (ha : a.length <= 1000000000000) (st : Store) (R : AV -> Store -> Prop) (h : R (bool (decide (a = b))) st) : ACalls Tryz.prog 55 [lst 10 ze a, lst 10 ze b] st R := by
 refine ACalls.of_body (c := cfg 26) zb Tryz.func55 (by rfl) (by rfl) (by rfl) (by rfl) ?_
 refine zg (fun h1 => ?_) (fun h1 => ?_)
 ·have : a ≠ b := fun h2 => N6 h1 (by rw [h2])
  rw [show decide (a = b) = false by simp [this]] at h
  exact ⟨_, st, Tt, Store.Has.refl st, h⟩
 ·have hl : a.length = b.length := Pd h1
  refine AWp.loop (σ := Nat) ⟨fun i => [(0, .av (lst 10 ze a)), (1, .av (lst 10 ze b)), (5, .av (int i))], fun _ => [], fun i st' => i <= a.length /\ a.take i = b.take i /\ st' = st, fun i => a.length - i⟩ zb ?_ ?_
  ·exact ⟨0, Tv, ⟨Nat.zero_le _, rfl, rfl⟩, ⟨Tq, Tq, Tq, Tv⟩, Tv⟩
  ·rintro i st' ⟨hi, heq, hst⟩
   refine zg (fun h2 => ?_) (fun h2 => ?_)
   ·have hlt : i < a.length := qy h2
    have hltb : i < b.length := by omega
    refine ADraw.of_sched zb (by rfl) (by rfl) zi5 (by rfl) ?_
    refine ⟨i, rfl, za _ (zj hlt) ?_⟩
    refine ⟨i, rfl, za _ (zj hltb) ?_⟩
    refine zg (fun h3 => ?_) (fun h3 => ?_)
    ·have hne : a[i] ≠ b[i] := by
      intro h4
      rw [h4] at h3
      simp at h3
     have : a ≠ b := by
      intro h4
      subst h4
      exact hne rfl
     rw [show decide (a = b) = false by simp [this]] at h
     subst hst
     exact ⟨_, st', Tt, Store.Has.refl st', h⟩
    ·refine ⟨⟨by omega, by omega⟩, ?_⟩
     refine ⟨i + 1, ?_, ⟨hlt, ?_, hst⟩, ⟨Tq, Tq, Tq, Tv⟩, Tv⟩
     ·show a.length - (i + 1) < a.length - i
      omega
     ·rw [List.take_succ_eq_append_getElem hlt, List.take_succ_eq_append_getElem hltb, heq]
      have : a[i] = b[i] := by cases hx : a[i]; cases hy : b[i]; rw [hx, hy] at h3; simp at h3; simp [h3, Prod.ext_iff]
      rw [this]
   ·have hge : i = a.length := jh h2 hi
    subst hge hst
    have : a = b := by
     rw [List.take_length, hl, List.take_length] at heq
     exact heq
    rw [show decide (a = b) = true by simp [this]] at h
    exact ⟨_, st', Tt, Store.Has.refl st', h⟩
theorem zrx (a b : Gnd) (ha : a.fits) (st : Store) (R : AV -> Store -> Prop) (h : R (V.bool (decide (a = b))) st) : ACalls Tryz.prog 53 [.agg (zt a), .agg (zt b)] st R := by
 refine ACalls.of_body (c := cfg 24) zb Tryz.func53 (by rfl) (by rfl) (by rfl) (by rfl) ?_
 refine zg (fun h1 => ?_) (fun h1 => ⟨_, st, Tt, Store.Has.refl st, isF h (decide_eq_false fun e => by subst e; simp at h1)⟩)
 refine zg (fun h2 => ?_) (fun h1 => ⟨_, st, Tt, Store.Has.refl st, isF h (decide_eq_false fun e => by subst e; simp at h1)⟩)
 refine zry a.T b.T ha _ _ ?_
 refine ⟨_, st, Tt, Store.Has.refl st, ?_⟩
 have e : decide (a.T = b.T) = decide (a = b) := by
  rw [Bool.eq_iff_iff]
  simp only [beq_iff_eq, decide_eq_true_eq] at *
  constructor
  ·intro h9
   cases a; cases b
   simp_all
  ·rintro rfl
   rfl
 rw [<- e] at h
 exact h
theorem Dv (w : Wld) (hw : w.fits) (st : Store) (R : AV -> Store -> Prop) (h : R (V.bool true) st) : ACalls Tryz.prog 20 [.agg (zr w), .agg (zr w)] st R := by
 refine ACalls.of_body (c := cfg 45) zb Tryz.func20 (by rfl) (by rfl) (by rfl) (by rfl) ?_
 refine yp (fun h1 => ?_) (fun h1 => absurd rfl h1)
 refine yp (fun h2 => ?_) (fun h1 => absurd rfl h1)
 refine yp (fun h3 => ?_) (fun h1 => absurd rfl h1)
 refine zrx w.G w.G hw.1 _ _ ?_
 rw [show decide (w.G = w.G) = true by simp]
 refine zrz w.B w.B hw.2.1 _ _ ?_
 rw [show decide (w.B = w.B) = true by simp]
 refine zrv w.U w.U hw.2.2 _ _ ?_
 rw [show decide (w.U = w.U) = true by simp]
 exact ret h
theorem Bo (u : Bld) : (zp u).length = 6 := rfl
theorem Py (b : Bld) : ∀ y ∈ zp b, ∃ x, y = AV.s x /\ y6 x = true := by
 intro y hy
 simp [zp] at hy
 rcases hy with rfl | rfl | rfl | rfl | rfl | rfl <;> exact ⟨_, rfl, rfl⟩
theorem Av (c : UInt8) : (u8C c).length = 1 := rfl
theorem Ml (c : UInt8) : ∀ y ∈ u8C c, ∃ x, y = AV.s x /\ y6 x = true := by
 intro y hy
 simp [u8C] at hy
 exact ⟨_, hy, rfl⟩
theorem zse (st : Store) : zi Store.empty st := fun b hb => (hb.elim (fun h => h rfl) (fun h => h rfl) : False).elim
theorem Gf (st : Store) : zi Store.empty st := fun b hb => (hb.elim (fun h => h rfl) (fun h => h rfl) : False).elim
theorem zta (l : List UInt8) (hl : l.length <= 1000000000) (st : Store) (R : AV -> Store -> Prop) (h : ∀ v N, RowsQ 1 u8C N v l -> zi N st -> R v (N.un st)) : ACalls Tryz.prog 154 [Cr l] st R := by
 refine ACalls.of_body (c := cfg 8) zb Tryz.func154 (by rfl) (by rfl) (by rfl) (by rfl) ?_
 intro b hb
 cases b with
 | true =>
  have : l = [] := by
   have := congrArg List.length (hb rfl)
   rw [zu] at this
   exact List.eq_nil_of_length_eq_zero this
  subst this
  have := h (.s (.slice none 0 0)) Store.empty (.inl (.inl ⟨rfl, rfl⟩)) (Gf st)
  rw [kj] at this
  exact ret this
 | false =>
  refine ⟨by decide, ?_⟩
  exact P8 (ie := ti5) rfl Av (by decide) hl (fun v N hv hd => ret (h v N hv hd))
theorem ztb (l : List Bld) (hl : l.length <= 1000000000) (st : Store) (R : AV -> Store -> Prop) (h : ∀ v N, RowsQ 6 zp N v l -> zi N st -> R v (N.un st)) : ACalls Tryz.prog 102 [lst 6 zp l] st R := by
 refine ACalls.of_body (c := cfg 8) zb Tryz.func102 (by rfl) (by rfl) (by rfl) (by rfl) ?_
 intro b hb
 cases b with
 | true =>
  have : l = [] := by
   have := congrArg List.length (hb rfl)
   rw [zu] at this
   exact List.eq_nil_of_length_eq_zero this
  subst this
  have := h (.s (.slice none 0 0)) Store.empty (.inl (.inl ⟨rfl, rfl⟩)) (Gf st)
  rw [kj] at this
  exact ret this
 | false =>
  refine ⟨by decide, ?_⟩
  exact P8 (ie := ti164) rfl Bo (by decide) hl (fun v N hv hd => ret (h v N hv hd))
theorem zs9 (l : List Unt) (hl : l.length <= 1000000000) (st : Store) (R : AV -> Store -> Prop) (h : ∀ v N, RowsQ 10 ze N v l -> zi N st -> R v (N.un st)) : ACalls Tryz.prog 103 [lst 10 ze l] st R := by
 refine ACalls.of_body (c := cfg 8) zb Tryz.func103 (by rfl) (by rfl) (by rfl) (by rfl) ?_
 intro b hb
 cases b with
 | true =>
  have : l = [] := by
   have := congrArg List.length (hb rfl)
   rw [zu] at this
   exact List.eq_nil_of_length_eq_zero this
  subst this
  have := h (.s (.slice none 0 0)) Store.empty (.inl (.inl ⟨rfl, rfl⟩)) (Gf st)
  rw [kj] at this
  exact ret this
 | false =>
  refine ⟨by decide, ?_⟩
  exact P8 (ie := ti37) rfl xb (by decide) hl (fun v N hv hd => ret (h v N hv hd))
theorem zp9 (g : Gnd) (hg : g.T.length <= 1000000000) (st : Store) (R : AV -> Store -> Prop) (h : ∀ v N, RowsQ 1 u8C N v g.T -> zi N st -> R (.agg [int g.W, int g.H, v]) (N.un st)) : ACalls Tryz.prog 101 [.agg (zt g)] st R := by
 refine ACalls.of_body (c := cfg 8) zb Tryz.func101 (by rfl) (by rfl) (by rfl) (by rfl) ?_
 refine zta g.T hg _ _ (fun v N hv hd => ?_)
 obtain ⟨oa, cap, hv2, _⟩ := hv.form
 subst hv2
 exact ret (h _ N hv hd)
def At (w : Wld) (vT vB vU : AV) : List AV := [int w.tick, int w.players, int w.next, int w.G.W, int w.G.H, vT, vB, vU]
/-- A world in memory of its own, part by part. -/
structure OwnQ (S : Store) (w : Wld) (vT vB vU : AV) (NT NB NU : Store) : Prop where
 e : S = NU.un (NB.un NT)
 rT : RowsQ 1 u8C NT vT w.G.T
 rB : RowsQ 6 zp NB vB w.B
 rU : RowsQ 10 ze NU vU w.U
 dB : zi NB NT
 dU : zi NU (NB.un NT)
theorem Wf (w : Wld) (hT : w.G.T.length <= 1000000000) (hB : w.B.length <= 1000000000) (hU : w.U.length <= 1000000000) (R : AV -> Store -> Prop)
  (h : ∀ S vT vB vU NT NB NU, OwnQ S w vT vB vU NT NB NU -> R (.agg (At w vT vB vU)) S) : ACalls Tryz.prog 65 [.agg (zr w)] Store.empty R := by
 refine ACalls.of_body (c := cfg 16) zb Tryz.func65 (by rfl) (by rfl) (by rfl) (by rfl) ?_
 refine ADraw.of_sched zb (by rfl) (by rfl) zi3 (by rfl) ?_
 refine ⟨zp9 w.G hT _ _ (fun vT NT rT _ => ⟨(by repeat (first | exact Tv | refine ⟨rfl, ?_⟩ | refine ⟨optR (optR (optR (za _ (zd _ _ _) rfl))), ?_⟩)), ?_⟩), Tv⟩
 rw [D9]
 refine ⟨ztb w.B hB _ _ (fun vB NB rB dB => ⟨(by repeat (first | exact Tv | refine ⟨rfl, ?_⟩ | refine ⟨optR (optR (optR (za _ (zd _ _ _) rfl))), ?_⟩)), ?_⟩), Tv⟩
 refine ⟨zs9 w.U hU _ _ (fun vU NU rU dU => ⟨(by repeat (first | exact Tv | refine ⟨rfl, ?_⟩ | refine ⟨optR (optR (optR (za _ (zd _ _ _) rfl))), ?_⟩)), ?_⟩), Tv⟩
 have ho : OwnQ (NU.un (NB.un NT)) w vT vB vU NT NB NU := ⟨rfl, rT, rB, rU, dB, dU⟩
 obtain ⟨_, _, e1, _⟩ := rT.form
 obtain ⟨_, _, e2, _⟩ := rB.form
 obtain ⟨_, _, e3, _⟩ := rU.form
 subst e1 e2 e3
 refine ⟨⟨(by repeat (first | exact Tv | refine ⟨rfl, ?_⟩ | refine ⟨optR (optR (optR (za _ (zd _ _ _) rfl))), ?_⟩)), ?_⟩, Tv⟩
 refine ⟨⟨(by repeat (first | exact Tv | refine ⟨rfl, ?_⟩ | refine ⟨optR (optR (optR (za _ (zd _ _ _) rfl))), ?_⟩)), ?_⟩, Tv⟩
 refine ⟨⟨(by repeat (first | exact Tv | refine ⟨rfl, ?_⟩ | refine ⟨optR (optR (optR (za _ (zd _ _ _) rfl))), ?_⟩)), ?_⟩, Tv⟩
 exact ret (h _ _ _ _ _ _ _ ho)
theorem Nw {S NT NB NU : Store} {w : Wld} {vT vB vU : AV} (h : OwnQ S w vT vB vU NT NB NU) : RowsQ 1 u8C S vT w.G.T /\ RowsQ 6 zp S vB w.B /\ RowsQ 10 ze S vU w.U := by
 have h1 := h.rT
 have h2 := h.rB.unL h.dB
 rw [h.e]
 exact ⟨(h1.un (a := NB)).un, h2.un, h.rU.unL h.dU⟩
theorem znh {st NT NB NU : Store} {w : Wld} {vT vB vU : AV} (h : OwnQ st w vT vB vU NT NB NU) {Oth M : Nat -> Nat -> Prop} {W : World} (sto : StoreOK st Oth M W) {x : Value} (hx : VRel W (fun b o => M b o \/ Oth b o) (.agg (At w vT vB vU)) x) :
  VRel W (fun b o => (M b o \/ Oth b o) /\ st.obj b = none) (.agg (zr w)) x := by
 obtain ⟨hT, hB, hU⟩ := Nw h
 cases hx with
 | agg _ c hl hc =>
  refine .agg _ c hl fun i x y hx hy => ?_
  match i with
  | 0 => simp only [zr, List.getElem?_cons_zero, Option.some.injEq] at hx; subst hx; exact qr (hc 0 _ y rfl hy)
  | 1 => simp only [zr, List.getElem?_cons_succ, List.getElem?_cons_zero, Option.some.injEq] at hx; subst hx; exact qr (hc 1 _ y rfl hy)
  | 2 => simp only [zr, List.getElem?_cons_succ, List.getElem?_cons_zero, Option.some.injEq] at hx; subst hx; exact qr (hc 2 _ y rfl hy)
  | 3 => simp only [zr, List.getElem?_cons_succ, List.getElem?_cons_zero, Option.some.injEq] at hx; subst hx; exact qr (hc 3 _ y rfl hy)
  | 4 => simp only [zr, List.getElem?_cons_succ, List.getElem?_cons_zero, Option.some.injEq] at hx; subst hx; exact qr (hc 4 _ y rfl hy)
  | 5 => simp only [zr, List.getElem?_cons_succ, List.getElem?_cons_zero, Option.some.injEq] at hx; subst hx; exact hT.borrow Av Ml sto (hc 5 _ y rfl hy)
  | 6 => simp only [zr, List.getElem?_cons_succ, List.getElem?_cons_zero, Option.some.injEq] at hx; subst hx; exact hB.borrow Bo Py sto (hc 6 _ y rfl hy)
  | 7 => simp only [zr, List.getElem?_cons_succ, List.getElem?_cons_zero, Option.some.injEq] at hx; subst hx; exact hU.borrow xb Mj sto (hc 7 _ y rfl hy)
  | i + 8 => simp [zr] at hx
theorem Hl {a b : Store} {i : Nat} (h : (a.un b).obj i = none) : a.obj i = none /\ b.obj i = none := by
 unfold Store.un at h
 dsimp only at h
 cases hb : b.obj i with
 | none => rw [hb] at h; exact ⟨h, rfl⟩
 | some y => rw [hb] at h; cases h
/-- A copy whose units alone may be written. -/
theorem znf (w : Wld) (hT : w.G.T.length <= 1000000000) (hB : w.B.length <= 1000000000) (hU : w.U.length <= 1000000000) (R : AV -> Store -> Prop)
  (h : ∀ v N, RowsQ 10 ze N v w.U -> R (.agg (xf w v)) N) : ACalls Tryz.prog 65 [.agg (zr w)] Store.empty R := by
 refine (Wf w hT hB hU (fun r S => ∃ vT vB vU NT NB NU, OwnQ S w vT vB vU NT NB NU /\ r = .agg (At w vT vB vU)) fun S vT vB vU NT NB NU ho => ⟨vT, vB, vU, NT, NB, NU, ho, rfl⟩).frozenTo ?_
 rintro r S ⟨vT, vB, vU, NT, NB, NU, ho, rfl⟩
 have hk : ∃ N2 : Store, RowsQ 10 ze N2 vU w.U /\ (∀ b x, N2.obj b = some x -> NU.obj b = some x) /\ (∀ b x, N2.tok b ≠ some x) := by
  refine ⟨⟨NU.obj, fun _ => none⟩, ho.rU.sub fun _ _ _ _ => rfl, fun b x hx => hx, fun b x => by simp⟩
 obtain ⟨N2, hN, hsub, htok⟩ := hk
 refine ⟨.agg (xf w vU), N2, h vU N2 hN, fun b x hx => ?_, htok, fun Oth M W v sto hx => ?_⟩
 ·rw [ho.e]
  exact y3 ho.dU (hsub b x hx)
 ·obtain ⟨rT, rB, rU⟩ := Nw ho
  cases hx with
  | agg _ c hl hc =>
   have mono1 : ∀ {x : AV} {v : Value}, VRel W (fun b o => M b o \/ Oth b o) x v -> VRel W (fun b o => (M b o \/ Oth b o) /\ (S.obj b = none \/ N2.obj b ≠ none)) x v := fun h => h.mono fun _ _ h => h.1
   have mono2 : ∀ {x : AV} {v : Value} {Z : Store}, (∀ b, N2.obj b ≠ none -> Z.obj b = none) -> (∀ b, S.obj b = none -> Z.obj b = none) -> VRel W (fun b o => (M b o \/ Oth b o) /\ Z.obj b = none) x v -> VRel W (fun b o => (M b o \/ Oth b o) /\ (S.obj b = none \/ N2.obj b ≠ none)) x v := fun hz1 hz2 h => h.mono fun b _ h => ⟨h.1, h.2.elim (hz2 b) (hz1 b)⟩
   have hS : ∀ b, S.obj b = none -> NU.obj b = none /\ NB.obj b = none /\ NT.obj b = none := fun b hb => by
    rw [ho.e] at hb
    obtain ⟨h1, h2⟩ := Hl hb
    exact ⟨h1, (Hl h2).1, (Hl h2).2⟩
   have hN2 : ∀ b, N2.obj b ≠ none -> NB.obj b = none /\ NT.obj b = none := fun b hb => by
    cases hx : N2.obj b with
    | none => exact absurd hx hb
    | some y =>
     have h1 := ks (hsub b y hx)
     have h2 := ki (ho.dU b h1)
     exact ⟨(Hl h2.1).1, (Hl h2.1).2⟩
   have sNB : StoreOK NB Oth M W := sto.weaken ⟨fun b x hx => by rw [ho.e]; exact zf (y3 ho.dB hx), fun b x hx => by rw [ho.e]; exact wy (Gv ho.dB hx)⟩
   have sNT : StoreOK NT Oth M W := sto.weaken ⟨fun b x hx => by rw [ho.e]; exact zf (zf hx), fun b x hx => by rw [ho.e]; exact wy (wy hx)⟩
   refine .agg _ c hl fun i x y hx hy => ?_
   match i with
   | 0 => simp only [xf, List.getElem?_cons_zero, Option.some.injEq] at hx; subst hx; exact mono1 (hc 0 _ y rfl hy)
   | 1 => simp only [xf, List.getElem?_cons_succ, List.getElem?_cons_zero, Option.some.injEq] at hx; subst hx; exact mono1 (hc 1 _ y rfl hy)
   | 2 => simp only [xf, List.getElem?_cons_succ, List.getElem?_cons_zero, Option.some.injEq] at hx; subst hx; exact mono1 (hc 2 _ y rfl hy)
   | 3 => simp only [xf, List.getElem?_cons_succ, List.getElem?_cons_zero, Option.some.injEq] at hx; subst hx; exact mono1 (hc 3 _ y rfl hy)
   | 4 => simp only [xf, List.getElem?_cons_succ, List.getElem?_cons_zero, Option.some.injEq] at hx; subst hx; exact mono1 (hc 4 _ y rfl hy)
   | 5 => simp only [xf, List.getElem?_cons_succ, List.getElem?_cons_zero, Option.some.injEq] at hx; subst hx; exact mono2 (fun b hb => (hN2 b hb).2) (fun b hb => (hS b hb).2.2) (ho.rT.borrow Av Ml sNT (hc 5 _ y rfl hy))
   | 6 => simp only [xf, List.getElem?_cons_succ, List.getElem?_cons_zero, Option.some.injEq] at hx; subst hx; exact mono2 (fun b hb => (hN2 b hb).1) (fun b hb => (hS b hb).2.1) (ho.rB.borrow Bo Py sNB (hc 6 _ y rfl hy))
   | 7 => simp only [xf, List.getElem?_cons_succ, List.getElem?_cons_zero, Option.some.injEq] at hx; subst hx; exact mono1 (hc 7 _ y rfl hy)
   | i + 8 => simp [xf] at hx
theorem zs3 (l : List Unt) (hl : l.length <= 1000000) (R : AV -> Store -> Prop) (h : ∀ v N, RowsO 10 ze N v l -> R v N) : ACalls Tryz.prog 12 [lst 10 ze l] Store.empty R := by
 refine ACalls.of_body (c := cfg 19) zb Tryz.func12 (by rfl) (by rfl) (by rfl) (by rfl) ?_
 refine AWp.loop (σ := Nat × AV × Store) ⟨fun s => [(0, .av (lst 10 ze l)), (3, .av s.2.1), (4, .av (int s.1))], fun _ => [], fun s st' => s.1 <= l.length /\ st' = s.2.2 /\ RowsO 10 ze s.2.2 s.2.1 (l.take s.1), fun s => l.length - s.1⟩ zb ?_ ?_
 ·exact ⟨(0, _, Store.empty), Tv, ⟨Nat.zero_le _, rfl, .inl ⟨rfl, rfl⟩⟩, ⟨Tq, Tq, Tq, Tv⟩, Tv⟩
 ·rintro ⟨i, v, N⟩ st' ⟨hi, rfl, ha⟩
  dsimp only at hi ha ⊢
  refine zg (fun h1 => ?_) (fun h1 => ?_)
  ·have hlt : i < l.length := qy h1
   refine ⟨i, rfl, za _ (zj hlt) ?_⟩
   refine ⟨by decide, ?_⟩
   refine ft (ie := ti37) rfl (fun _ => rfl) (by decide) ha l[i] rfl (by rw [List.length_take]; omega) (fun b cap L q1 q2 q3 q4 => ?_)
   refine ⟨⟨by omega, by omega⟩, ?_⟩
   refine ⟨(i + 1, _, _), ?_, ⟨hlt, rfl, ?_⟩, ⟨Tq, Tq, Tq, Tv⟩, Tv⟩
   ·show l.length - (i + 1) < l.length - i
    omega
   ·dsimp only
    rw [List.take_succ_eq_append_getElem hlt]
    exact .inr ⟨b, cap, L, rfl, zd _ _ _, q2, q3, q4⟩
  ·have hge : i = l.length := jh h1 hi
   subst hge
   rw [List.take_length] at ha
   exact ret (h _ _ ha)
theorem zs4 (l : List Unt) (hl : l.length <= 1000000) (st : Store) (R : AV -> Store -> Prop) (h : ∀ v N, RowsO 10 ze N v l -> zi N st -> R v (N.un st)) : ACalls Tryz.prog 12 [lst 10 ze l] st R := by
 rw [<- kj st]
 exact ACalls.frame (zse st) (zs3 l hl (fun v N => RowsO 10 ze N v l) fun v N hv => hv) fun v N hv hd => h v N hv hd
theorem zs1 (w : Wld) (hw : w.fits) (hU : w.U.length <= 1000000) (st : Store) (R : AV -> Store -> Prop) (h : ∀ v N, RowsO 10 ze N v w.U -> zi N st -> R (.agg (xf w v)) (N.un st)) : ACalls Tryz.prog 13 [.agg (zr w)] st R := by
 refine ACalls.of_body (c := cfg 18) zb Tryz.func13 (by rfl) (by rfl) (by rfl) (by rfl) ?_
 refine dv w.G hw.1 _ _ ?_
 refine dw w.B hw.2.1 _ _ ?_
 refine zs4 w.U hU _ _ (fun v N hv hd => ?_)
 have hv2 := hv
 rcases hv2 with ⟨rfl, _⟩ | ⟨b, cap, L, rfl, _⟩
 ·exact ret (h _ N hv hd)
 ·exact ret (h _ N hv hd)
/-- One cell of a unit is stored. -/
theorem zle {g : Store} {b cap : Nat} {us : List Unt} {L : List AV} (h1 : us.length <= cap) (h2 : cap * 10 <= us.length * 10 + L.length) (h3 : cap <= 9223372036854775807) {i j : Nat} (hi : i < us.length) {ys : List AV} (hj : j + ys.length <= 10) {u' : Unt} (hu : ze u' = zy (ze us[i]) j ys) :
  RowsO 10 ze (g.setObj b (.cells (zy ((rws ze us).flatten ++ L) (0 + i * 10 + j) ys))) (.s (.slice (some ⟨b, 0, none⟩) us.length cap)) (us.set i u') := by
 refine .inr ⟨b, cap, L, by rw [List.length_set], ?_, by rw [List.length_set]; exact h1, by rw [List.length_set]; exact h2, h3⟩
 rw [zd, Nat.zero_add, Fi xb hi hj hu]
theorem zlj (m : Int) (hm : 0 <= m) (st : Store) (R : AV -> Store -> Prop) (h : ∀ r, Bh m r -> R (int r) st) : ACalls Tryz.prog 339 [.agg (qp m)] st R := by
 refine ACalls.of_body (c := cfg 22) zb Tryz.func339 (by rfl) (by rfl) (by rfl) (by rfl) ?_
 refine AWp.loop (σ := Nat × Int) ⟨fun x => [(1, .bx 1 0), (3, .av (u64 x.2)), (4, .av (int ((x.1 : Int) - 1)))], fun _ => [(1, qp m)],
  fun x st' => x.1 <= 63 /\ st' = st /\ By m x.2 x.1, fun x => x.1⟩ zb ?_ ?_
 ·exact ⟨(63, 0), Tv, ⟨Nat.le_refl _, rfl, zlm hm⟩, ⟨Tq, Tq, Tq, Tv⟩, ⟨rfl, Tv⟩⟩
 rintro ⟨k, r⟩ st' ⟨hk, rfl, hr⟩
 dsimp only at hk hr ⊢
 refine bcd (fun h1 => ?_) (fun h1 => ?_)
 rotate_left
 ·have : k = 0 := by omega
  subst this
  have hi := zlo hr
  have h2 := h r hi
  have hi0 := hi.1
  exact ⟨⟨by omega, hi.2.1⟩, ret h2⟩
 cases k with
 | zero => omega
 | succ k =>
  obtain ⟨e1, e2, e3, e4⟩ := zlp hr
  have e5 : ((k + 1 : Nat) : Int) - 1 = (k : Int) := by omega
  refine ⟨by omega, ?_⟩
  have e7 : xq .or .u64 r (IntKind.u64.wrap (1 * 2 ^ (min (((k + 1 : Nat) : Int) - 1).toNat IntKind.u64.bits))) = r + 2 ^ k := by rw [e5, zip (by omega), e1]
  have e8 : ∀ X, X = r + 2 ^ k -> 0 <= X /\ X < 18446744073709551616 /\ 0 <= X * X := fun X hX => by subst hX; exact ⟨by omega, by omega, Int.mul_nonneg (by omega) (by omega)⟩
  have e8 := e8 _ e7
  refine ADraw.of_sched zb (by rfl) (by rfl) zjm (by rfl) ?_
  refine ⟨Kw _ e8.1 e8.2.1 _ _ ⟨(by repeat (first | exact Tv | refine ⟨rfl, ?_⟩ | refine ⟨optR (optR (optR (za _ (zd _ _ _) rfl))), ?_⟩)), ?_⟩, Tv⟩
  refine ⟨fg m _ hm e8.2.2 _ _ ⟨(by repeat (first | exact Tv | refine ⟨rfl, ?_⟩ | refine ⟨optR (optR (optR (za _ (zd _ _ _) rfl))), ?_⟩)), ?_⟩, Tv⟩
  have no := fun hh => zln hr hh
  have yes := fun hh => zll hr hh
  rw [<- e7] at no yes
  generalize xq .or .u64 r (IntKind.u64.wrap (1 * 2 ^ (min (((k + 1 : Nat) : Int) - 1).toNat IntKind.u64.bits))) = X at *
  refine z8 ?_
  refine bcd (fun c1 => ?_) (fun c1 => ?_)
  ·refine ⟨by unfold z6; omega, ?_⟩
   refine ⟨(k, r), ?_, ⟨by dsimp only; omega, rfl, no c1⟩, ⟨Tq, Tq, ?_, Tv⟩, ⟨rfl, Tv⟩⟩
   ·show k < k + 1
    omega
   ·rw [e5]; exact Tq
  ·refine ⟨by unfold z6; omega, ?_⟩
   refine ⟨(k, X), ?_, ⟨by dsimp only; omega, rfl, yes (by omega)⟩, ⟨Tq, Tq, ?_, Tv⟩, ⟨rfl, Tv⟩⟩
   ·show k < k + 1
    omega
   ·rw [e5]; exact Tq
theorem W6 (v : Vc) (hv : v.ok) (st : Store) (R : AV -> Store -> Prop) (h : ∀ r, Bh (sqr v) r -> R (int r) st) : ACalls Tryz.prog 296 [.agg (zk v)] st R := by
 have hb := Gz hv
 refine ACalls.of_body (c := cfg 6) zb Tryz.func296 (by rfl) (by rfl) (by rfl) (by rfl) ?_
 refine Sp v hv _ _ ?_
 refine zlj (sqr v) (by unfold sqr; omega) _ _ (fun r hr => ?_)
 exact ret (h r hr)
theorem Me (v : Vc) (st : Store) (R : AV -> Store -> Prop) (h : R (.agg (zk (ym v))) st) : ACalls Tryz.prog 93 [.agg (zk v)] st R := by
 refine ACalls.of_body (c := cfg 10) zb Tryz.func93 (by rfl) (by rfl) (by rfl) (by rfl) ?_
 refine ADraw.of_sched zb (by rfl) (by rfl) ziy (by rfl) ?_
 refine ⟨Dg v.1 _ _ ⟨(by repeat (first | exact Tv | refine ⟨rfl, ?_⟩ | refine ⟨optR (optR (optR (za _ (zd _ _ _) rfl))), ?_⟩)), ?_⟩, Tv⟩
 refine ⟨Dg v.2 _ _ ⟨(by repeat (first | exact Tv | refine ⟨rfl, ?_⟩ | refine ⟨optR (optR (optR (za _ (zd _ _ _) rfl))), ?_⟩)), ?_⟩, Tv⟩
 refine ⟨⟨(by repeat (first | exact Tv | refine ⟨rfl, ?_⟩ | refine ⟨optR (optR (optR (za _ (zd _ _ _) rfl))), ?_⟩)), ?_⟩, Tv⟩
 exact ret h
theorem Mi (a b : Vc) (ha : a.ok) (hb : b.ok) (st : Store) (R : AV -> Store -> Prop) (h : R (.agg (zk (qi a b))) st) : ACalls Tryz.prog 94 [.agg (zk a), .agg (zk b)] st R := by
 refine ACalls.of_body (c := cfg 16) zb Tryz.func94 (by rfl) (by rfl) (by rfl) (by rfl) ?_
 refine ADraw.of_sched zb (by rfl) (by rfl) zix (by rfl) ?_
 refine ⟨Cw a.1 b.1 ha.1 hb.1 _ _ ⟨(by repeat (first | exact Tv | refine ⟨rfl, ?_⟩ | refine ⟨optR (optR (optR (za _ (zd _ _ _) rfl))), ?_⟩)), ?_⟩, Tv⟩
 refine ⟨Cw a.2 b.2 ha.2 hb.2 _ _ ⟨(by repeat (first | exact Tv | refine ⟨rfl, ?_⟩ | refine ⟨optR (optR (optR (za _ (zd _ _ _) rfl))), ?_⟩)), ?_⟩, Tv⟩
 refine ⟨⟨(by repeat (first | exact Tv | refine ⟨rfl, ?_⟩ | refine ⟨optR (optR (optR (za _ (zd _ _ _) rfl))), ?_⟩)), ?_⟩, Tv⟩
 exact ret h
theorem zk0 (a b : Vc) (ha : a.ok) (hb : b.ok) (st : Store) (R : AV -> Store -> Prop) (h : R (.agg (zk (qi a b))) st) : ACalls Tryz.prog 57 [.agg (zk a), .agg (zk b)] st R := by
 refine ACalls.of_body (c := cfg 16) zb Tryz.func57 (by rfl) (by rfl) (by rfl) (by rfl) ?_
 refine ADraw.of_sched zb (by rfl) (by rfl) zi4 (by rfl) ?_
 refine ⟨No a.1 b.1 ha.1 hb.1 _ _ ⟨(by repeat (first | exact Tv | refine ⟨rfl, ?_⟩ | refine ⟨optR (optR (optR (za _ (zd _ _ _) rfl))), ?_⟩)), ?_⟩, Tv⟩
 refine ⟨No a.2 b.2 ha.2 hb.2 _ _ ⟨(by repeat (first | exact Tv | refine ⟨rfl, ?_⟩ | refine ⟨optR (optR (optR (za _ (zd _ _ _) rfl))), ?_⟩)), ?_⟩, Tv⟩
 refine ⟨⟨(by repeat (first | exact Tv | refine ⟨rfl, ?_⟩ | refine ⟨optR (optR (optR (za _ (zd _ _ _) rfl))), ?_⟩)), ?_⟩, Tv⟩
 exact ret h
theorem zsc (lo y : Int) (h0 : 0 <= lo) (h1 : lo < 18446744073709551616) (h2 : 0 < y) (h3 : y < 18446744073709551616) (st : Store) (R : AV -> Store -> Prop) (h : R (.tup [u64 (lo / y), u64 (lo % y)]) st) : ACalls Tryz.prog 340 [u64 0, u64 lo, u64 y] st R := by
 have e1 : lo.tdiv y = lo / y := Int.tdiv_eq_ediv_of_nonneg h0
 have e2 : lo.tmod y = lo % y := Int.tmod_eq_emod_of_nonneg h0
 have b1 : lo / y <= lo := Int.ediv_le_self _ h0
 have b0 : 0 <= lo / y := Int.ediv_nonneg h0 (by omega)
 have w : IntKind.u64.wrap (lo.tdiv y) = lo / y := by rw [e1]; exact kw b0 (by omega)
 refine ACalls.of_body (c := cfg 135) zb Tryz.func340 (by rfl) (by rfl) (by rfl) (by rfl) ?_
 refine yp (fun c1 => absurd c1 (by omega)) (fun c1 => ?_)
 refine bcd (fun c2 => absurd c2 (by omega)) (fun c2 => ?_)
 refine ADraw.of_sched zb (by rfl) (by rfl) zjl (by rfl) ?_
 refine ⟨by omega, ?_⟩
 refine ⟨by omega, ?_⟩
 refine ⟨⟨(by repeat (first | exact Tv | refine ⟨rfl, ?_⟩ | refine ⟨optR (optR (optR (za _ (zd _ _ _) rfl))), ?_⟩)), ⟨⟨Tv, ?_⟩, Tv⟩⟩, Tv⟩
 rw [w, e2]
 exact ret h
theorem nrm_lt {n : Int} : nrm n < 0 ↔ n < 0 := by unfold nrm; split <;> omega
theorem zua {c : Int} (h : -4611686018427387904 <= c /\ c <= 4611686018427387904) : asz c = if c < 0 then -c else c := by
 unfold asz
 rw [vq (by omega)]
theorem We (c most long : Int) (hc : -1099511627776 <= c /\ c <= 1099511627776) (hm : 0 <= most /\ most <= 1048576) (hl : 0 < long /\ long < 9223372036854775808) (st : Store) (R : AV -> Store -> Prop) (h : R (int (Bm c most long)) st) :
  ACalls Tryz.prog 297 [int c, int most, int long] st R := by
 have hasz := zua (c := c) (by omega)
 obtain ⟨x, hx⟩ : ∃ x, x = asz c := ⟨_, rfl⟩
 have hx0 : 0 <= x /\ x <= 1099511627776 := by rw [hx, hasz]; split <;> omega
 have hp0 : 0 <= x * most := Int.mul_nonneg hx0.1 hm.1
 have hp1 : x * most <= 1099511627776 * 1048576 := Int.mul_le_mul hx0.2 hm.2 hm.1 (by omega)
 have hq1 : x * most / long <= x * most := Int.ediv_le_self _ hp0
 have hq0 : 0 <= x * most / long := Int.ediv_nonneg hp0 (by omega)
 have w1 : IntKind.u64.wrap most = most := kw (by omega) (by omega)
 have w2 : IntKind.u64.wrap long = long := kw (by omega) (by omega)
 refine ACalls.of_body (c := cfg 39) zb Tryz.func297 (by rfl) (by rfl) (by rfl) (by rfl) ?_
 refine Rc c ⟨by omega, by omega⟩ _ _ ?_
 rw [<- hx]
 show ACalls _ _ [u64 x, u64 (IntKind.u64.wrap most)] _ _
 rw [w1]
 refine N8 x most hx0.1 (by omega) hm.1 (by omega) _ _ ?_
 have e2 : qp (x * most) = [u64 0, u64 (x * most)] := by
  unfold qp
  rw [Int.ediv_eq_zero_of_lt hp0 (by omega), Int.emod_eq_of_lt hp0 (by omega)]
 rw [e2]
 show ACalls _ _ [u64 0, u64 (x * most), u64 (IntKind.u64.wrap long)] _ _
 rw [w2]
 refine zsc _ _ hp0 (by omega) hl.1 (by omega) _ _ ?_
 unfold Bm at h
 refine bcd (fun c1 => ?_) (fun c1 => ?_)
 ·have c1 := nrm_lt.1 c1
  rw [if_pos c1] at h
  rw [if_pos c1] at hasz
  refine zc (by omega) ?_
  refine zc (by omega) ?_
  have e : 0 - x * most / long = -(-c * most / long) := by rw [hx, hasz]; omega
  rw [e]
  exact ret h
 ·have c1 : ¬ c < 0 := fun hh => c1 (nrm_lt.2 hh)
  rw [if_neg c1] at h
  rw [if_neg c1] at hasz
  refine zc (by omega) ?_
  rw [hx, hasz]
  exact ret h
theorem iq {v : Vc} (h : jz v) : ym v = v := (Dc (C7 h)).2.1
theorem Li (v : Vc) (most : Int) (hv : jz v) (hm : -9223372036854775808 <= most /\ most <= 1048576) (st : Store) (R : AV -> Store -> Prop) (h : R (.agg (zk (xg v most))) st) :
  ACalls Tryz.prog 228 [.agg (zk v), int most] st R := by
 have hn := iq hv
 have hsq := (Dc (C7 hv)).2.2.1
 have hri := Fl hsq
 unfold xg at h
 rw [<- Fw] at h
 have hmx : 0 <= max2 most 0 /\ max2 most 0 <= 1048576 := by rw [Fw]; omega
 obtain ⟨r0, r1, _, _⟩ := hri
 refine ACalls.of_body (c := cfg 27) zb Tryz.func228 (by rfl) (by rfl) (by rfl) (by rfl) ?_
 refine Me v _ _ ?_
 rw [hn] at h ⊢
 refine W6 v (l7 hv) _ _ (fun r hr => ?_)
 have hr := Vs hsq hr
 subst hr
 generalize max2 most 0 = m at *
 generalize xc (sqr v) = L at *
 refine bcd (fun c1 => ?_) (fun c1 => ?_)
 ·rw [if_pos c1] at h
  exact ret h
 rw [if_neg c1] at h
 have e1 : nrm v.1 = v.1 := congrArg Prod.fst hn
 have e2 : nrm v.2 = v.2 := congrArg Prod.snd hn
 rw [e1, e2] at h
 refine ADraw.of_sched zb (by rfl) (by rfl) zj0 (by rfl) ?_
 refine ⟨We v.1 m L hv.1 hmx (by omega) _ _ ⟨(by repeat (first | exact Tv | refine ⟨rfl, ?_⟩ | refine ⟨optR (optR (optR (za _ (zd _ _ _) rfl))), ?_⟩)), ?_⟩, Tv⟩
 refine ⟨We v.2 m L hv.2 hmx (by omega) _ _ ⟨(by repeat (first | exact Tv | refine ⟨rfl, ?_⟩ | refine ⟨optR (optR (optR (za _ (zd _ _ _) rfl))), ?_⟩)), ?_⟩, Tv⟩
 refine ⟨⟨(by repeat (first | exact Tv | refine ⟨rfl, ?_⟩ | refine ⟨optR (optR (optR (za _ (zd _ _ _) rfl))), ?_⟩)), ?_⟩, Tv⟩
 exact ret h
theorem l0 (p q : Vc) (s : Int) (hp : qj p) (hq : qj q) (hs : 0 <= s /\ s <= 1048576) (st : Store) (R : AV -> Store -> Prop) (h : R (.agg (zk (Ip p q s))) st) : ACalls Tryz.prog 234 [.agg (zk p), .agg (zk q), int s] st R := by
 have hp' : p.ok := by unfold qj at hp; exact ⟨⟨by omega, by omega⟩, ⟨by omega, by omega⟩⟩
 have hq' : q.ok := by unfold qj at hq; exact ⟨⟨by omega, by omega⟩, ⟨by omega, by omega⟩⟩
 refine ACalls.of_body (c := cfg 12) zb Tryz.func234 (by rfl) (by rfl) (by rfl) (by rfl) ?_
 refine Mb q p hq' hp' _ _ ?_
 refine Li _ s (Ij hp hq) (by omega) _ _ ?_
 exact ret h
theorem qm {i : TI} {cells row rest : List AV} {K : LV -> Prop} (ha : kq i.ty = true) (hs : i.size = row.length) (hc : cells = row ++ rest) (h : K (.av (.agg row))) : partK i cells K := by
 subst hc
 unfold partK
 rw [ha, cond_true, hs]
 have : Nat.ble row.length (row ++ rest).length = true := by simp
 rw [this, cond_true]
 refine Dt ?_
 rw [List.take_append_of_le_length (Nat.le_refl _), List.take_length]
 exact h
theorem I4 {α : Type} {k : Nat} {f : α -> List AV} (hf : ∀ x, (f x).length = k) {l : List α} {L : List AV} {i : Nat} (hi : i < l.length) : List.drop (0 + i * k) ((rws f l).flatten ++ L) = f l[i] ++ ((rws f (l.drop (i + 1))).flatten ++ L) := by
 have h1 : (rws f (l.take i)).flatten.length = i * k := by rw [k7 hf, List.length_take, Nat.min_eq_left (by omega)]
 rw [Nat.zero_add, Iz hi, List.append_assoc, <- h1, List.drop_left, List.append_assoc]
theorem er {S : Store} (R : AV -> Store -> Prop) (h : ∀ F p, CellsOf F p [] -> zi F S -> R (ptr p) (F.un S)) : ACalls Tryz.prog 132 [] S R := by
 have := ACalls.frame (a := Store.empty) (g := S) (fun i h1 => by rcases h1 with h1 | h1 <;> exact absurd rfl h1) (ej (fun r a' => ∃ p, r = ptr p /\ CellsOf a' p []) (fun a p h => ⟨p, rfl, h⟩)) (R' := R) (fun r a' ⟨p, e, hc⟩ hd => e ▸ h a' p hc hd)
 rwa [kj] at this
/-- A stand whose units are cells of an object. -/
def svC (w : Wld) (v o0 o1 o2 : AV) (p : Nat) : List AV := xf w v ++ [o0, o1, o2, ptr p]
def svS (G : Store) (s : Nat) (w : Wld) (v o0 o1 o2 : AV) (p : Nat) : Store := G.setObj s (.cells (svC w v o0 o1 o2 p))
structure StandR (F G : Store) (s p : Nat) (w : Wld) (v : AV) (L : List Ent) (o0 o1 o2 : AV) : Prop where
 hc : CellsOf F p L
 hd : zi F (svS G s w v o0 o1 o2 p)
 hs : G.obj s = none
 hu : RowsQ 10 ze G v w.U
 h0 : Bb w 0 o0
 h1 : Bb w 1 o1
 h2 : Bb w 2 o2
theorem k5 (G : Store) (s : Nat) (w : Wld) (v o0 o1 o2 : AV) (p : Nat) : (svS G s w v o0 o1 o2 p).obj s = some (.cells (svC w v o0 o1 o2 p)) := zd _ _ _
theorem Iv {G : Store} {s : Nat} {w : Wld} {v o0 o1 o2 : AV} {p : Nat} {u : AV} {l : List Unt} (hs : G.obj s = none) (h : RowsQ 10 ze G u l) : RowsQ 10 ze (svS G s w v o0 o1 o2 p) u l := by
 rcases h with (h | ⟨b, cap, L, h1, h2, h3⟩) | h
 ·exact .inl (.inl h)
 ·refine .inl (.inr ⟨b, cap, L, h1, ?_, h3⟩)
  have : b ≠ s := fun e => by subst e; rw [hs] at h2; cases h2
  show (G.setObj s _).obj b = _
  rw [zq this]
  exact h2
 ·exact .inr h
theorem svS_has {G : Store} {s : Nat} {w : Wld} {v o0 o1 o2 : AV} {p i : Nat} : (svS G s w v o0 o1 o2 p).has i ↔ i = s \/ G.has i := by
 unfold svS Store.has
 by_cases hi : i = s
 ·subst hi
  simp [zd]
 ·rw [zq hi]
  simp [hi, Store.setObj]
theorem Pj {F G : Store} {s : Nat} {w w' : Wld} {v o0 o1 o2 v' q0 q1 q2 : AV} {p : Nat} (h : zi F (svS G s w v o0 o1 o2 p)) : zi F (svS G s w' v' q0 q1 q2 p) := fun i h1 h2 => h i h1 (svS_has.2 (svS_has.1 h2))
theorem znr (w : Wld) (v : AV) (G : Store) (hu : RowsQ 10 ze G v w.U) (hU : w.U.length <= 1000000) (hn : ∀ u ∈ w.U, u.pos.ok) (R : AV -> Store -> Prop)
  (h : ∀ F s p L o0 o1 o2, Fresh G s -> StandR F G s p w v L o0 o1 o2 -> L.length <= w.U.length -> (yf w.U -> ∀ e, e ∈ L ↔ ∃ u ∈ w.U, u.inn = 0 /\ e = (u.id, u.pos)) -> R (ptr s) (F.un (svS G s w v o0 o1 o2 p))) : ACalls Tryz.prog 80 [.agg (xf w v)] G R := by
 obtain ⟨oa, cap, hv, hget⟩ := hu.form
 subst hv
 refine ACalls.of_body (c := cfg 31 [9] []) zb Tryz.func80 (by rfl) (by rfl) (by rfl) (by rfl) ?_
 refine ADraw.of_sched zb (by rfl) (by rfl) Nf (by rfl) ?_
 refine ⟨er _ (fun F p hc hdF => ⟨(by repeat (first | exact Tv | refine ⟨rfl, ?_⟩ | refine ⟨optR (optR (optR (za _ (zd _ _ _) rfl))), ?_⟩)), ?_⟩), Tv⟩
 refine ⟨fun s hs => ⟨Tv, ?_⟩, Tv⟩
 refine ⟨⟨Tv, ?_⟩, Tv⟩
 have hs1 : ¬ F.has s /\ ¬ G.has s := by
  have := fresh_iff.1 hs
  exact ⟨fun h => this (un_has.2 (.inl h)), fun h => this (un_has.2 (.inr h))⟩
 have hsG : G.obj s = none := (ki hs1.2).1
 have e0 : (F.un G).setObj s (.cells (svC w (.s (.slice oa w.U.length cap)) (.s (.slice none 0 0)) (.s (.slice none 0 0)) (.s (.slice none 0 0)) p)) = F.un (svS G s w (.s (.slice oa w.U.length cap)) (.s (.slice none 0 0)) (.s (.slice none 0 0)) (.s (.slice none 0 0)) p) := by
  exact yx F G s _
 have h0 : StandR F G s p w (.s (.slice oa w.U.length cap)) [] (.s (.slice none 0 0)) (.s (.slice none 0 0)) (.s (.slice none 0 0)) := ⟨hc, fun i h1 h2 => by
  rcases svS_has.1 h2 with rfl | h2
  ·exact hs1.1 h1
  ·exact hdF i h1 h2, hsG, hu, .inl rfl, .inl rfl, .inl rfl⟩
 have hsf : Fresh G s := fresh_iff.2 hs1.2
 refine AWp.loop (σ := Nat × Store × List Ent) ⟨fun q => [(3, .av (ptr s)), (11, .av (.s (.slice oa w.U.length cap))), (12, .av (int (w.U.length : Nat))), (13, .av (int (q.1 : Nat)))], fun _ => [],
  fun q st' => st' = q.2.1.un (svS G s w (.s (.slice oa w.U.length cap)) (.s (.slice none 0 0)) (.s (.slice none 0 0)) (.s (.slice none 0 0)) p) /\ StandR q.2.1 G s p w (.s (.slice oa w.U.length cap)) q.2.2 (.s (.slice none 0 0)) (.s (.slice none 0 0)) (.s (.slice none 0 0)) /\ q.1 <= w.U.length /\ q.2.2.length <= q.1 /\ (∀ e ∈ q.2.2, e.2.ok) /\ (yf w.U -> ∀ e, e ∈ q.2.2 ↔ ∃ u ∈ w.U.take q.1, u.inn = 0 /\ e = (u.id, u.pos)), fun q => w.U.length - q.1⟩ zb ?_ ?_
 ·exact ⟨(0, F, []), Tv, ⟨e0, h0, Nat.zero_le _, Nat.le_refl _, fun e he => (by cases he), fun _ e => (by simp)⟩, ⟨Tq, Tq, Tq, Tq, Tv⟩, Tv⟩
 rintro ⟨i, F1, L⟩ st' ⟨rfl, hS, hi, hL, hok, hmem⟩
 dsimp only at hS hi hL hok hmem ⊢
 refine bcd (fun h1 => ?_) (fun h1 => ?_)
 rotate_left
 ·have : i = w.U.length := by omega
  subst this
  rw [List.take_length] at hmem
  exact ret (h F1 s p L _ _ _ hsf hS hL hmem)
 have hlt : i < w.U.length := by omega
 obtain ⟨b, J, rfl, hob0⟩ := hget i hlt
 have hbs : b ≠ s := fun e => by subst e; rw [hsG] at hob0; cases hob0
 have hob : (F1.un (svS G s w (.s (.slice (some ⟨b, 0, none⟩) w.U.length cap)) (.s (.slice none 0 0)) (.s (.slice none 0 0)) (.s (.slice none 0 0)) p)).obj b = some (.cells ((rws ze w.U).flatten ++ J)) := zf (by
  show (G.setObj s _).obj b = _
  rw [zq hbs]; exact hob0)
 refine ⟨i, rfl, hlt, ?_⟩
 refine za (o := (F1.un (svS G s w _ _ _ _ p)).obj b) _ hob ?_
 refine qm (i := ti37) (row := ze w.U[i]) rfl rfl (I4 xb hlt) ?_
 have hn2 := hn w.U[i] (List.getElem_mem hlt)
 refine yp (fun c1 => ?_) (fun c1 => ?_)
 ·refine ADraw.of_sched zb (by rfl) (by rfl) Nd (by rfl) ?_
  refine za (o := (F1.un (svS G s w _ _ _ _ p)).obj s) _ (zf (k5 G s w _ _ _ _ p)) ?_
  refine ⟨H3 hS.hc hS.hd (by omega) hok w.U[i].id w.U[i].pos hn2 _ (fun F2 h2 h3 => ⟨Tv, ?_⟩), Tv⟩
  have hlen : (yi L w.U[i].id ++ [(w.U[i].id, w.U[i].pos)]).length <= i + 1 := by
   rw [List.length_append]
   have : (yi L w.U[i].id).length <= L.length := List.length_filter_le _ _
   simp only [List.length_singleton]; omega
  refine zc (by omega) ?_
  refine ⟨(i + 1, F2, _), ?_, ⟨rfl, ⟨h2, h3, hsG, hu, .inl rfl, .inl rfl, .inl rfl⟩, by dsimp only; omega, hlen, fun e he => ?_, fun hr e => ?_⟩, ⟨Tq, Tq, Tq, Tq, Tv⟩, Tv⟩
  ·show w.U.length - (i + 1) < w.U.length - i
   omega
  ·rcases List.mem_append.1 he with he | he
   ·exact hok e (mem_dropId.1 he).1
   ·simp at he; subst he; exact hn2
  ·dsimp only
   rw [List.take_succ_eq_append_getElem hlt, List.mem_append, mem_dropId, hmem hr e]
   constructor
   ·rintro (⟨⟨u, hu, h4⟩, _⟩ | he)
    ·exact ⟨u, List.mem_append.2 (.inl hu), h4⟩
    ·simp at he
     exact ⟨w.U[i], List.mem_append.2 (.inr (by simp)), c1, he⟩
   ·rintro ⟨u, hu, h4, h5⟩
    rcases List.mem_append.1 hu with hu | hu
    ·refine .inl ⟨⟨u, hu, h4, h5⟩, ?_⟩
     obtain ⟨j, hj, rfl⟩ := List.getElem_of_mem hu
     rw [List.length_take] at hj
     rw [List.getElem_take] at h5
     have := Hc hr (a := j) (b := i) (by omega) hlt
     subst h5
     show w.U[j].id ≠ w.U[i].id
     omega
    ·simp at hu
     subst hu
     exact .inr (by simp [h5])
 ·refine zc (by omega) ?_
  refine ⟨(i + 1, F1, L), ?_, ⟨rfl, hS, by dsimp only; omega, by dsimp only; omega, hok, fun hr e => ?_⟩, ⟨Tq, Tq, Tq, Tq, Tv⟩, Tv⟩
  ·show w.U.length - (i + 1) < w.U.length - i
   omega
  ·dsimp only
   rw [hmem hr e, List.take_succ_eq_append_getElem hlt]
   constructor
   ·rintro ⟨u, hu, h3⟩; exact ⟨u, List.mem_append.2 (.inl hu), h3⟩
   ·rintro ⟨u, hu, h3, h4⟩
    rcases List.mem_append.1 hu with hu | hu
    ·exact ⟨u, hu, h3, h4⟩
    ·simp at hu
     subst hu
     exact absurd h3 c1
theorem zon (g : Gnd) (hg : zl g) (t : Nat) (ht : (t : Int) < g.W * g.H) (st : Store) (R : AV -> Store -> Prop) (h : R (.agg (zk (tx g t + 32768, ty g t + 32768))) st) : ACalls Tryz.prog 229 [.agg (zt g), int (t : Nat)] st R := by
 have htb := w7 hg ht
 have hq := C0 (t := t) hg.1.1
 have hq2 := C6 (t := t) hg.1.1
 have hg1 := hg.1
 have hg2 := hg.2.1
 unfold tx ty at h
 refine ACalls.of_body (c := cfg 18) zb Tryz.func229 (by rfl) (by rfl) (by rfl) (by rfl) ?_
 refine ADraw.of_sched zb (by rfl) (by rfl) zjz (by rfl) ?_
 refine ⟨by omega, ?_⟩
 refine zc (by rw [hq]; omega) ?_
 refine zc (by rw [hq]; omega) ?_
 refine ⟨by omega, ?_⟩
 refine zc (by rw [hq2]; omega) ?_
 refine zc (by rw [hq2]; omega) ?_
 refine zc (by rw [hq2]; omega) ?_
 refine ⟨⟨(by repeat (first | exact Tv | refine ⟨rfl, ?_⟩ | refine ⟨optR (optR (optR (za _ (zd _ _ _) rfl))), ?_⟩)), ?_⟩, Tv⟩
 rw [<- hq, <- hq2] at h
 exact ret h
theorem zom (g : Gnd) (hg : zl g) (t : Nat) (ht : (t : Int) < g.W * g.H) (x : Int) (hx : x = (t : Int)) (st : Store) (R : AV -> Store -> Prop) (h : R (.agg (zk (tx g t + 32768, ty g t + 32768))) st) : ACalls Tryz.prog 229 [.agg (zt g), int x] st R := by
 subst hx
 exact zon g hg t ht st R h
theorem Kg (g : Gnd) (hg : zl g) (t : Nat) (ht : t < g.T.length) (x : Int) (hx : x = (t : Int)) (st : Store) (R : AV -> Store -> Prop) (h : R (.agg (zk (qf g t))) st) : ACalls Tryz.prog 229 [.agg (zt g), int x] st R :=
 zom g hg t (by have := y9 hg; omega) x hx st R h
theorem ztk (g : Gnd) (hg : zl g) (t : Nat) (ht : t < g.T.length) (tI : Int) (htI : tI = (t : Int)) (st : Store) (R : AV -> Store -> Prop) (h : R (.agg (zk (qf g t))) st) : ACalls Tryz.prog 7 [.agg (zt g), int tI] st R := by
 subst htI
 have ha := y9 hg
 have htb := w7 hg (t := t) (by omega)
 have hq := C0 (t := t) hg.1.1
 have hq2 := C6 (t := t) hg.1.1
 have hg1 := hg.1
 have hg2 := hg.2.1
 unfold qf tx ty at h
 rw [<- hq, <- hq2] at h
 refine ACalls.of_body (c := cfg 18) zb Tryz.func7 (by rfl) (by rfl) (by rfl) (by rfl) ?_
 refine ADraw.of_sched zb (by rfl) (by rfl) zi2 (by rfl) ?_
 refine ⟨by omega, ?_⟩
 refine zc (by omega) ?_
 refine zc (by omega) ?_
 refine ⟨by omega, ?_⟩
 refine zc (by omega) ?_
 refine zc (by omega) ?_
 refine zc (by omega) ?_
 refine ⟨⟨(by repeat (first | exact Tv | refine ⟨rfl, ?_⟩ | refine ⟨optR (optR (optR (za _ (zd _ _ _) rfl))), ?_⟩)), ?_⟩, Tv⟩
 exact ret h
theorem lj (g : Gnd) (hg : zl g) (p : Vc) (h0 : (0 <= p.1 /\ p.1 < g.W * 65536) /\ (0 <= p.2 /\ p.2 < g.H * 65536)) (st : Store) (R : AV -> Store -> Prop) (h : R (int (ja g p : Nat)) st) : ACalls Tryz.prog 231 [.agg (zt g), .agg (zk p)] st R := by
 have hs := hg.1
 have hs2 := hg.2.1
 obtain ⟨e1, e2, _⟩ := Sd hg h0
 have ha := y9 hg
 refine ACalls.of_body (c := cfg 39) zb Tryz.func231 (by rfl) (by rfl) (by rfl) (by rfl) ?_
 refine bcd (fun c1 => absurd c1 (by omega)) (fun c1 => ?_)
 refine zc (by omega) ?_
 refine bcd (fun c1 => absurd c1 (by omega)) (fun c1 => ?_)
 refine bcd (fun c1 => absurd c1 (by omega)) (fun c1 => ?_)
 refine zc (by omega) ?_
 refine bcd (fun c1 => absurd c1 (by omega)) (fun c1 => ?_)
 have q1 : p.1.tdiv 65536 = p.1 / 65536 := Int.tdiv_eq_ediv_of_nonneg (by omega)
 have q2 : p.2.tdiv 65536 = p.2 / 65536 := Int.tdiv_eq_ediv_of_nonneg (by omega)
 have hx : 0 <= p.1 / 65536 /\ p.1 / 65536 <= 128 := by omega
 have hy : 0 <= p.2 / 65536 /\ p.2 / 65536 <= 128 := by omega
 have hm : 0 <= g.W * (p.2 / 65536) /\ g.W * (p.2 / 65536) <= 128 * 128 := ⟨Int.mul_nonneg (by omega) hy.1, Int.mul_le_mul hs.2 hy.2 hy.1 (by decide)⟩
 refine ⟨by decide, ?_⟩
 refine zc (by rw [q1]; omega) ?_
 refine ⟨by decide, ?_⟩
 refine zc (by rw [q2]; omega) ?_
 refine zc (by rw [q2]; omega) ?_
 refine zc (by rw [q1, q2]; omega) ?_
 rw [q1, q2, <- e1]
 exact ret h
end Go.Proofs
