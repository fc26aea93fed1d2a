/- The ground on which laws of thronglaw24 are proved: contracts of functions and plain lemmas; no condition beyond the row's own. -/
import Derived.Test.YtbemejeejgpkaaaGreatRows
import Derived.Test.YtbemejeejgpkaaaGreatVJ
import Derived.Test.YtbemejeejgpkaaaGreatVI
import Derived.Test.YtbemejeejgpkaaaGreatSK
import Derived.Test.YtbemejeejgpkaaaGreatVH
import Derived.Test.YtbemejeejgpkaaaGreatSJ
set_option linter.unusedSimpArgs false
set_option linter.unusedVariables false
namespace Go.V
theorem zqx {w : Wld} {u : Unt} {v : Vc} : ∀ (n k : Nat) {r : Nat × Vc}, tryL w u v n k = some r → k ≤ r.1 ∧ r.1 < k + n := by
 intro n
 induction n with
 | zero => intro k r h; cases h
 | succ n ih =>
  intro k r h
  unfold tryL at h
  split at h
  ·cases h
  ·split at h
   ·cases h; exact ⟨Nat.le_refl _, by dsimp only; omega⟩
   ·have := ih (k + 1) h; omega
theorem zfh (a : Int) : -262144 < a.tmod 262144 ∧ a.tmod 262144 < 262144 := by
 have h1 := Int.tmod_lt_of_pos a (show (0 : Int) < 262144 by decide)
 have h2 := Int.tmod_lt_of_pos (-a) (show (0 : Int) < 262144 by decide)
 rw [Int.neg_tmod] at h2
 omega
theorem zgk {a : Int} (h : -262144 < a ∧ a < 262144) (k : Nat) : -262144 < a.tdiv ((2 ^ k : Nat) : Int) ∧ a.tdiv ((2 ^ k : Nat) : Int) < 262144 := by
 have hp : 0 < 2 ^ k := Nat.pow_pos (by decide)
 have h1 : a.tdiv ((2 ^ k : Nat) : Int) ≤ a.natAbs := by
  have := Int.natAbs_tdiv_le_natAbs a ((2 ^ k : Nat) : Int)
  omega
 have h2 := Int.natAbs_tdiv_le_natAbs a ((2 ^ k : Nat) : Int)
 omega
/-- A way that is cut to size. -/
def remV (v : Vc) : Vc := (v.1.tmod 262144, v.2.tmod 262144)
theorem zro (v : Vc) : (remV v).ok := by
 have h1 := zfh v.1
 have h2 := zfh v.2
 exact ⟨⟨by show _ ≤ v.1.tmod _; omega, by show v.1.tmod _ ≤ _; omega⟩, ⟨by show _ ≤ v.2.tmod _; omega, by show v.2.tmod _ ≤ _; omega⟩⟩
theorem zlv {a : Int} (h : -262144 < a ∧ a < 262144) : nrm a = a := by unfold nrm; rw [if_neg (by omega)]
theorem zna (v : Vc) : vnrm (remV v) = remV v := by
 show (nrm (v.1.tmod 262144), nrm (v.2.tmod 262144)) = _
 rw [zlv (zfh _), zlv (zfh _)]
 rfl
theorem zts {a b : Int} (ha : -1000000000 < a ∧ a < 1000000000) (hb : -262144 < b ∧ b < 262144) : fadd a b = a + b := by
 unfold fadd
 rw [zlv hb, show nrm a = a by unfold nrm; rw [if_neg (by omega)]]
 unfold xo
 rw [if_neg (by omega), if_neg (by omega)]
/-- Where a step would come to. -/
def zf5 (p v : Vc) (k : Nat) : Vc := (p.1 + v.1.tdiv ((2 ^ k : Nat) : Int), p.2 + v.2.tdiv ((2 ^ k : Nat) : Int))
theorem zqy {p : Vc} (hp : mapV p) (v : Vc) (k : Nat) : vadd p (x5 (remV v) k) = zf5 p (remV v) k := by
 unfold mapV at hp
 have h1 := zgk (zfh v.1) k
 have h2 := zgk (zfh v.2) k
 show (fadd p.1 ((v.1.tmod 262144).tdiv ((2 ^ k : Nat) : Int)), fadd p.2 ((v.2.tmod 262144).tdiv ((2 ^ k : Nat) : Int))) = _
 rw [zts (by omega) h1, zts (by omega) h2]
 rfl
theorem ybu {p : Vc} (hp : mapV p) (v : Vc) (k : Nat) : zz (zf5 p (remV v) k).1 ∧ zz (zf5 p (remV v) k).2 := by
 unfold mapV at hp
 have h1 := zgk (zfh v.1) k
 have h2 := zgk (zfh v.2) k
 constructor
 ·show zz (p.1 + (v.1.tmod 262144).tdiv _)
  unfold zz
  omega
 ·show zz (p.2 + (v.2.tmod 262144).tdiv _)
  unfold zz
  omega
theorem zlc {p v : Vc} {k : Nat} : zf5 p v k = p ↔ x5 v k = (0, 0) := by
 obtain ⟨p1, p2⟩ := p
 unfold zf5 x5
 rw [Prod.mk.injEq, Prod.mk.injEq]
 omega
/-- The walk has come to 'k' and nothing was taken. -/
def zfd (w : Wld) (u : Unt) (v : Vc) (k : Nat) : Prop := tryL w u v 5 0 = tryL w u v (5 - k) k
theorem zfy {w : Wld} {u : Unt} {v : Vc} {k : Nat} (h : zfd w u v k) (h2 : k < 5 → x5 v k = (0, 0)) (hk : k ≤ 5) : tryL w u v 5 0 = none := by
 rw [h]
 by_cases h5 : k < 5
 ·rw [show 5 - k = (4 - k) + 1 by omega]
  unfold tryL
  rw [if_pos (h2 h5)]
 ·rw [show 5 - k = 0 by omega]
  rfl
theorem zoc {w : Wld} {u : Unt} {v : Vc} {k : Nat} (h : zfd w u v k) (hk : k < 5) (h1 : x5 v k ≠ (0, 0)) (h2 : yl w u.id u.kind (vadd u.pos (x5 v k))) : tryL w u v 5 0 = some (k, vadd u.pos (x5 v k)) := by
 rw [h, show 5 - k = (4 - k) + 1 by omega]
 unfold tryL
 rw [if_neg h1, if_pos h2]
theorem zod {w : Wld} {u : Unt} {v : Vc} {k : Nat} (h : zfd w u v k) (hk : k < 5) (h1 : x5 v k ≠ (0, 0)) (h2 : ¬ yl w u.id u.kind (vadd u.pos (x5 v k))) : zfd w u v (k + 1) := by
 unfold zfd
 rw [h, show 5 - k = (5 - (k + 1)) + 1 by omega]
 conv => lhs; unfold tryL
 rw [if_neg h1, if_neg h2]
theorem zdw {w : Wld} {u : Unt} {v : Vc} (h : tryL w u (vnrm v) 5 0 = none) : tryK w u v = 5 ∧ tryW w u v = w := by
 unfold tryK tryW
 rw [h]
 exact ⟨rfl, rfl⟩
theorem zis {w : Wld} {u : Unt} {v : Vc} {k : Nat} {p : Vc} (h : tryL w u (vnrm v) 5 0 = some (k, p)) : tryK w u v = k ∧ tryW w u v = putU w { u with pos := p } := by
 unfold tryK tryW
 rw [h]
 exact ⟨rfl, rfl⟩
theorem zu1 {w : Wld} {u : Unt} {v : Vc} {k : Nat} (h : zfd w u (vnrm v) (k + 1)) (hk : k < 5) : tryK w u v ≠ (k : Int) := by
 unfold tryK
 cases e : tryL w u (vnrm v) 5 0 with
 | none => dsimp only; omega
 | some r =>
  rw [h] at e
  have := zqx _ _ e
  obtain ⟨a, b⟩ := r
  dsimp only at this ⊢
  omega
theorem yj9 (w : Wld) (u : Unt) (v : Vc) : 0 ≤ tryK w u v ∧ tryK w u v ≤ 5 := by
 unfold tryK
 cases e : tryL w u (vnrm v) 5 0 with
 | none => exact ⟨by decide, by decide⟩
 | some r =>
  have := zqx _ _ e
  obtain ⟨a, b⟩ := r
  dsimp only at this ⊢
  omega
theorem zuz (w : Wld) (u : Unt) : tryK w u (0, 0) = 5 ∧ tryW w u (0, 0) = w := zdw (by
 have : x5 (vnrm (0, 0)) 0 = (0, 0) := by decide
 unfold tryL
 rw [if_pos this])
end Go.V
namespace Go.Proofs
open Go Go.V
set_option maxRecDepth 20000 in
theorem zjw (a : Scr24) (st : Store) (R : AV → Store → Prop) (h : ∀ z : Bool, (z = true ↔ zdj a) → R (bool z) st) : ACalls Tryz.prog 12 [.agg (zf6 a)] st R := by
 refine ACalls.of_body (c := cfg 18) zc Tryz.func12 (by rfl) (by rfl) (by rfl) (by rfl) ?_
 repeat' (first | refine bcd (fun _ => ?_) (fun _ => ?_) | refine zd (fun _ => ?_) (fun _ => ?_) | refine in64 (by omega) ?_ | (refine zer a.W _ _ ?_; rintro (_ | _) hz)| fail)
 all_goals
  refine ret (h _ ?_)
  simp only [decide_eq_true_eq, decide_eq_false_iff_not, Bool.false_eq_true, false_iff, true_iff, beq_iff_eq, bne_iff_ne, beq_eq_false_iff_ne, ne_eq, reduceCtorEq, zi, zdj, zj1] at *
  omega
theorem zug {w : Wld} {id : Int} (hm : mayP w) (he : askM w id = 0) : ∃ (i : Nat) (hi : i < w.U.length), w.U[i].id = id ∧ w.U[i].inn = 0 := by
 unfold askM at he
 rw [if_pos hm] at he
 cases hf : w.U.find? (fun u => u.id == id) with
 | none => rw [hf] at he; cases he
 | some u =>
  rw [hf] at he
  obtain ⟨i, hi, e⟩ := List.getElem_of_mem (List.mem_of_find?_eq_some hf)
  have hid := List.find?_some hf
  refine ⟨i, hi, ?_, ?_⟩
  ·rw [e]; simpa using hid
  ·rw [e]
   dsimp only at he
   by_cases h0 : u.inn = 0
   ·exact h0
   ·rw [if_neg h0] at he; cases he
end Go.Proofs
namespace Go.Proofs
open Go Go.V
set_option maxHeartbeats 2000000 in
theorem ydz (w : Wld) (hm : mayP w) (hn : ∀ u ∈ w.U, u.pos.ok) {i : Nat} (hi : i < w.U.length) (h0 : w.U[i].inn = 0) (d : Vc) (hd : d.ok) (R : AV → Store → Prop)
  (hok : ∀ S v, RowsQ 10 untC S v (tryW w w.U[i] d).U → R (.tup [.agg (wldV (tryW w w.U[i] d) v), int (tryK w w.U[i] d), int 0]) S) :
  ACalls Tryz.prog 30 [.agg (wldC w), int w.U[i].id, .agg (vecC d)] Store.empty R := by
 have f := mayF hm
 have hB := f.hB
 have hU := f.hU
 have hT := f.hT
 have ea := ze9 hm hi
 rw [if_pos h0] at ea
 have huniq : ∀ (j : Nat) (hj : j < w.U.length), w.U[j].id = w.U[i].id → j = i := fun j hj hd => by
  rcases Nat.lt_trichotomy j i with g | g | g
  ·have := qk hm.1.2.1 g hi
   omega
  ·exact g
  ·have := qk hm.1.2.1 g hj
   omega
 refine ACalls.of_body (c := cfg 34) zc Tryz.func30 (by rfl) (by rfl) (by rfl) (by rfl) ?_
 refine zg0 w f.fits hn (by omega) (by omega) (by omega) w.U[i].id _ (fun S he => absurd ea he) (fun j hj _ hid _ F G mb s p v L o0 o1 o2 hW => ?_)
 have hji := huniq j hj hid
 subst hji
 refine zg9 hW f hn hi d hd _ (fun F' G' L' q0 q1 q2 hW2 => ?_)
 generalize tryW w w.U[j] d = w2 at *
 generalize tryK w w.U[j] d = n at *
 obtain ⟨oa, cap, ev, _⟩ := hW2.S.hu.form
 subst ev
 refine za (o := (F'.un (svS G' s w2 _ q0 q1 q2 p)).obj mb) _ hW2.m ?_
 refine za (o := (F'.un (svS G' s w2 _ q0 q1 q2 p)).obj s) _ hW2.s ?_
 exact ret (hok _ _ (zde hW2.S.hs hW2.S.hu).un)
theorem yd0 (w : Wld) (hm : mayP w) (hn : ∀ u ∈ w.U, u.pos.ok) {i : Nat} (hi : i < w.U.length) (h0 : w.U[i].inn = 0) (d : Vc) (hd : d.ok) :
  ACalls Tryz.prog 30 [.agg (wldC w), int w.U[i].id, .agg (vecC d)] Store.empty fun r _ => r = .tup [.agg (wldC (tryW w w.U[i] d)), int (tryK w w.U[i] d), int 0] := by
 refine (ydz w hm hn hi h0 d hd (fun r S => ∃ v, RowsQ 10 untC S v (tryW w w.U[i] d).U ∧ r = .tup [.agg (wldV (tryW w w.U[i] d) v), int (tryK w w.U[i] d), int 0]) (fun S v hv => ⟨v, hv, rfl⟩)).frozen ?_
 rintro r S ⟨v, hv, rfl⟩
 refine ⟨_, rfl, fun Oth M W x sto hx => ?_⟩
 cases hx with
 | tup _ c hl hc =>
  refine .tup _ c hl fun i y z hy hz => ?_
  match i with
  | 0 => simp only [List.getElem?_cons_zero, Option.some.injEq] at hy; subst hy; exact zdr hv sto (hc 0 _ z rfl hz)
  | 1 => simp only [List.getElem?_cons_succ, List.getElem?_cons_zero, Option.some.injEq] at hy; subst hy; exact yi (hc 1 _ z rfl hz)
  | 2 => simp only [List.getElem?_cons_succ, List.getElem?_cons_zero, Option.some.injEq] at hy; subst hy; exact yi (hc 2 _ z rfl hz)
  | i + 3 => simp at hy
theorem zsl (w : Wld) (hw : playW w) {i : Nat} (hi : i < w.U.length) (h0 : w.U[i].inn = 0) (id : Int) (hid : w.U[i].id = id) (d : Vc) (hd : d.ok) (st : Store) (R : AV → Store → Prop)
  (h : R (.tup [.agg (wldC (tryW w w.U[i] d)), int (tryK w w.U[i] d), int 0]) st) :
  ACalls Tryz.prog 30 [.agg (wldC w), int id, .agg (vecC d)] st R := by
 subst hid
 exact yi6 (yd0 w hw.1 hw.2 hi h0 d hd) st R fun r hr => hr ▸ h
end Go.Proofs
namespace Go.Proofs
open Go Go.V
theorem zhi (w : Wld) (hw : playW w) (id k : Int) (hk : wd k) (q : Vc) (hq : q.ok) (st : Store) (R : AV → Store → Prop)
  (h : ∀ z : Bool, (z = true ↔ yl w id k q) → R (V.bool z) st) : ACalls Tryz.prog 33 [.agg (wldC w), int id, int k, .agg (vecC q)] st R := by
 have f := mayF hw.1
 have hB := f.hB
 have hU := f.hU
 refine ACalls.of_body (c := cfg 14) zc Tryz.func33 (by rfl) (by rfl) (by rfl) (by rfl) ?_
 exact zef w f.hg (by omega) f.hb (by omega) hw.2 f.hk id k hk q hq _ _ fun z hz => ret (h z hz)
theorem zct (w : Wld) (hU : w.U.length ≤ 1000000) (id : Int) (st : Store) (R : AV → Store → Prop) (h : R (int (idxI (zdb w.U id))) st) : ACalls Tryz.prog 29 [.agg (wldC w), int id] st R := zf9 w hU id st R h
theorem jq (w : Wld) (hw : playW w) {i : Nat} (hi : i < w.U.length) (id : Int) (hid : w.U[i].id = id) (st : Store) (R : AV → Store → Prop) (h : R (int (i : Nat)) st) : ACalls Tryz.prog 29 [.agg (wldC w), int id] st R :=
 zct w hw.sizes.2.2 id st R (by rw [znq hw.1.1.2.1 hi hid]; exact h)
/-- What is asked of a unit that is to go, found by number. -/
theorem zkw (w : Wld) (hn : ∀ u ∈ w.U, u.pos.ok) (hw : w.fits) (hU : w.U.length ≤ 1000000) (id : Int) (e : Int) (he : askM w id = e) (st : Store) (R : AV → Store → Prop) (h : R (int e) st) :
  ACalls Tryz.prog 14 [.agg (wldC w), int id] st R := by
 subst he
 refine ACalls.of_body (c := cfg 21) zc Tryz.func14 (by rfl) (by rfl) (by rfl) (by rfl) ?_
 refine zja w hw hn _ _ (fun y hy => ?_)
 refine yk ?_
 refine zd (fun c1 => ?_) (fun c1 => ?_)
 rotate_left
 ·rw [znz (fun hh => by rw [hy.2 hh] at c1; cases c1)] at h
  exact ret h
 have hm := hy.1 c1
 refine zct w hU id _ _ ?_
 cases hf : zdb w.U id with
 | none =>
  rw [zkx hm (zgp hf)] at h
  exact ret h
 | some i =>
  obtain ⟨hi, hid⟩ := zgo hf
  have ea := ze9 hm hi
  rw [hid] at ea
  rw [ea] at h
  refine ⟨i, rfl, za _ (zg hi) ?_⟩
  refine bcne (fun c3 => ?_) (fun c3 => ?_)
  ·rw [if_neg c3] at h
   exact ret h
  ·rw [if_pos c3] at h
   exact ret h
theorem zgg (w : Wld) (hw : playW w) {i : Nat} (hi : i < w.U.length) (h0 : w.U[i].inn = 0) (id : Int) (hid : w.U[i].id = id) (d : Vc) (hd : d.ok) (x : Wld) (hx : tryW w w.U[i] d = x) (n : Int) (hn : tryK w w.U[i] d = n) (st : Store) (R : AV → Store → Prop)
  (h : R (.tup [.agg (wldC x), int n, int 0]) st) :
  ACalls Tryz.prog 30 [.agg (wldC w), int id, .agg (vecC d)] st R := by
 subst hx
 subst hn
 exact zsl w hw hi h0 id hid d hd st R h
theorem zqt {w : Wld} (hw : playW w) {i : Nat} (hi : i < w.U.length) (h0 : w.U[i].inn = 0) (d : Vc) : playW (tryW w w.U[i] d) ∧ ∃ h2 : i < (tryW w w.U[i] d).U.length, (tryW w w.U[i] d).U[i].id = w.U[i].id := by
 have hm := yi3 hw.1 hi h0 d
 cases e : tryL w w.U[i] (vnrm d) 5 0 with
 | none =>
  have := (zdw e).2
  rw [this]
  exact ⟨hw, hi, rfl⟩
 | some r =>
  obtain ⟨k, p⟩ := r
  have e2 := (zis e).2
  have hp : p = vadd w.U[i].pos (x5 (vnrm d) k) := (wq 5 0 e).2.2
  rw [e2] at hm
  rw [e2]
  obtain ⟨h2, h3⟩ := zlo hw.1.1.2.1 hi (u := { w.U[i] with pos := p }) rfl
  refine ⟨⟨hm, ykr hw.2 ?_⟩, h2, by rw [h3]⟩
  show p.ok
  rw [hp]
  exact yfi _ _
end Go.Proofs
namespace Go.Proofs
open Go Go.V
set_option maxHeartbeats 4000000 in
set_option maxRecDepth 20000 in
theorem zhl (s : Scr24) (hs : s.good) (st : Store) (R : AV → Store → Prop) (h : R (V.bool true) st) : ACalls Tryz.prog 9 [.agg (zf6 s)] st R := by
 refine ACalls.of_body (c := cfg 197) zc Tryz.func9 (by rfl) (by rfl) (by rfl) (by rfl) ?_
 refine zjw s _ _ (fun z hz => ?_)
 refine zd (fun c1 => ret h) (fun c1 => ?_)
 have hnh : ¬ zdj s := fun hh => by have := hz.2 hh; rw [this] at c1; cases c1
 unfold zdj zj1 at hnh
 have hfit : s.W.fits := ⟨by unfold Gnd.fits; omega, by omega, by omega⟩
 have hI : s.I.length ≤ 40 := by omega
 refine zja s.W hfit hs.1 _ _ (fun y hy => ?_)
 refine yk ?_
 refine zd (fun c2 => ?_) (fun c2 => ret h)
 have hm := hy.1 c2
 have hw : playW s.W := ⟨hm, hs.1⟩
 have f := mayF hm
 refine AWp.loop (σ := Nat) ⟨fun i => [(1, .bx 1 0), (3, .av (int (i : Nat)))], fun _ => [(1, zf6 s)], fun i st' => i ≤ s.I.length ∧ st' = st, fun i => s.I.length - i⟩ zc ?_ ?_
 ·exact ⟨0, trivial, ⟨Nat.zero_le _, rfl⟩, ⟨lr_ _, lr_ _, trivial⟩, ⟨rfl, trivial⟩⟩
 rintro i st' ⟨hi, rfl⟩
 dsimp only at hi ⊢
 refine zd (fun h1 => ?_) (fun h1 => vr _ _ (ret h))
 have hlt : i < s.I.length := xh h1
 refine zd (fun h2 => ?_) (fun h2 => vr _ _ (ret h))
 have hlv : i < s.V.length := xh h2
 refine bcd (fun h3 => ?_) (fun h3 => vr _ _ (ret h))
 refine ADraw.of_sched zc (by rfl) (by rfl) ykn (by rfl) ?_
 refine ⟨i, rfl, za _ (zg hlt) ?_⟩
 refine ⟨zkw s.W hs.1 hfit (by omega) s.I[i] _ rfl _ _ ⟨(by repeat (first | exact trivial | refine ⟨rfl, ?_⟩ | refine ⟨optR (optR (optR (za _ (zb _ _ _) rfl))), ?_⟩)), ?_⟩, trivial⟩
 refine bcne (fun c3 => ?_) (fun c3 => ?_)
 ·refine in64 (by omega) ?_
  exact ⟨i + 1, (show s.I.length - (i + 1) < s.I.length - i by omega), ⟨hlt, rfl⟩, ⟨lr_ _, lr_ _, trivial⟩, ⟨rfl, trivial⟩⟩
 obtain ⟨k0, hk0, q1, q2⟩ := zug hm c3
 have hf := znq hm.1.2.1 hk0 q1
 have hmp := zni hm (List.getElem_mem hk0) q2
 obtain ⟨hpx, hkx, hxid⟩ := zqt hw hk0 q2 (remV s.V[i])
 have hnb := yj9 s.W s.W.U[k0] (remV s.V[i])
 obtain ⟨z1, z2⟩ := zuz s.W s.W.U[k0]
 have t0 : zfd s.W s.W.U[k0] (vnrm (remV s.V[i])) 0 := rfl
 have hnone := fun (e : tryL s.W s.W.U[k0] (vnrm (remV s.V[i])) 5 0 = none) => zdw e
 have hsome := fun k p (e : tryL s.W s.W.U[k0] (vnrm (remV s.V[i])) 5 0 = some (k, p)) => zis e
 have hnk := fun k (e : zfd s.W s.W.U[k0] (vnrm (remV s.V[i])) (k + 1)) (hk : k < 5) => zu1 e hk
 have ht := fun st2 R2 => zgg s.W hw hk0 q2 s.W.U[k0].id rfl (remV s.V[i]) (zro _) _ rfl _ rfl st2 R2
 rw [zna] at t0 hnone hsome
 have hnk2 : ∀ k, zfd s.W s.W.U[k0] (remV s.V[i]) (k + 1) → k < 5 → tryK s.W s.W.U[k0] (remV s.V[i]) ≠ (k : Int) := fun k e hk => hnk k (by rw [zna]; exact e) hk
 clear hnk
 have hvb := zro s.V[i]
 have hsi := fun k => zqy hmp s.V[i] k
 have hsb := fun k => ybu hmp s.V[i] k
 have hhb := fun k => zgk (zfh s.V[i].1) k
 have hhb2 := fun k => zgk (zfh s.V[i].2) k
 have hkk := f.hk _ (List.getElem_mem hk0)
 generalize tryW s.W s.W.U[k0] (remV s.V[i]) = x at *
 generalize tryK s.W s.W.U[k0] (remV s.V[i]) = n at *
 refine ADraw.of_sched zc (by rfl) (by rfl) ykm (by rfl) ?_
 refine ⟨i, rfl, za _ (zg hlt) ?_⟩
 refine ⟨jq s.W hw hk0 s.I[i] q1 _ _ ⟨(by repeat (first | exact trivial | refine ⟨rfl, ?_⟩ | refine ⟨⟨i, rfl, za _ (zg hlt) rfl⟩, ?_⟩ | refine ⟨⟨k0, rfl, za _ (zg hk0) rfl⟩, ?_⟩)), ?_⟩, ⟨⟨(by repeat (first | exact trivial | refine ⟨rfl, ?_⟩ | refine ⟨⟨i, rfl, za _ (zg hlt) rfl⟩, ?_⟩ | refine ⟨⟨k0, rfl, za _ (zg hk0) rfl⟩, ?_⟩)), ⟨jq s.W hw hk0 s.I[i] q1 _ _ ⟨(by repeat (first | exact trivial | refine ⟨rfl, ?_⟩ | refine ⟨⟨i, rfl, za _ (zg hlt) rfl⟩, ?_⟩ | refine ⟨⟨k0, rfl, za _ (zg hk0) rfl⟩, ?_⟩)), ?_⟩, trivial⟩⟩, trivial⟩⟩
 all_goals refine ⟨k0, rfl, za _ (zg hk0) ?_⟩
 refine ⟨⟨(by repeat (first | exact trivial | refine ⟨rfl, ?_⟩ | refine ⟨⟨i, rfl, za _ (zg hlt) rfl⟩, ?_⟩ | refine ⟨⟨k0, rfl, za _ (zg hk0) rfl⟩, ?_⟩)), ⟨⟨(by repeat (first | exact trivial | refine ⟨rfl, ?_⟩ | refine ⟨⟨i, rfl, za _ (zg hlt) rfl⟩, ?_⟩ | refine ⟨⟨k0, rfl, za _ (zg hk0) rfl⟩, ?_⟩)), ?_⟩, trivial⟩⟩, trivial⟩
 rotate_left
 refine ⟨⟨(by repeat (first | exact trivial | refine ⟨rfl, ?_⟩ | refine ⟨⟨i, rfl, za _ (zg hlt) rfl⟩, ?_⟩ | refine ⟨⟨k0, rfl, za _ (zg hk0) rfl⟩, ?_⟩)), ?_⟩, trivial⟩
 all_goals
  refine ADraw.of_sched zc (by rfl) (by rfl) ykl (by rfl) ?_
  refine ⟨i, rfl, za _ (zg hlv) ?_⟩
  refine ⟨by decide, ?_⟩
  refine ⟨i, rfl, za _ (zg hlv) ?_⟩
  refine ⟨by decide, ?_⟩
  refine ⟨⟨(by repeat (first | exact trivial | refine ⟨rfl, ?_⟩ | refine ⟨⟨i, rfl, za _ (zg hlv) rfl⟩, ?_⟩ | refine ⟨⟨by decide, rfl⟩, ?_⟩ | refine ⟨by decide, ?_⟩)), ⟨⟨(by repeat (first | exact trivial | refine ⟨rfl, ?_⟩ | refine ⟨⟨i, rfl, za _ (zg hlv) rfl⟩, ?_⟩ | refine ⟨⟨by decide, rfl⟩, ?_⟩ | refine ⟨by decide, ?_⟩)), ?_⟩, trivial⟩⟩, trivial⟩
  refine ht _ _ ?_
  refine zgg s.W hw hk0 q2 _ rfl (0, 0) ⟨⟨by decide, by decide⟩, ⟨by decide, by decide⟩⟩ _ z2 _ z1 _ _ ?_
  refine zca _ _ _ ?_
  refine zca _ _ _ ?_
  refine bcd (fun c4 => absurd c4 (by omega)) (fun c4 => ?_)
  refine bcd (fun c5 => absurd c5 (by omega)) (fun c5 => ?_)
  refine zkb s.W hfit _ _ ?_
  refine jq x hpx hkx _ hxid _ _ ?_
  refine ADraw.of_sched zc (by rfl) (by rfl) yh8 (by rfl) ?_
  refine ⟨jq s.W hw hk0 _ rfl _ _ ⟨(by repeat (first | exact trivial | refine ⟨rfl, ?_⟩ | refine ⟨⟨k0, rfl, za _ (zg hkx) rfl⟩, ?_⟩)), ?_⟩, ⟨⟨(by repeat (first | exact trivial | refine ⟨rfl, ?_⟩ | refine ⟨⟨k0, rfl, za _ (zg hkx) rfl⟩, ?_⟩)), ⟨jq s.W hw hk0 _ rfl _ _ ⟨(by repeat (first | exact trivial | refine ⟨rfl, ?_⟩ | refine ⟨⟨k0, rfl, za _ (zg hkx) rfl⟩, ?_⟩)), ?_⟩, trivial⟩⟩, trivial⟩⟩
  all_goals refine ⟨k0, rfl, za _ (zg hkx) ?_⟩
  refine ⟨⟨(by repeat (first | exact trivial | refine ⟨rfl, ?_⟩ | refine ⟨⟨k0, rfl, za _ (zg hkx) rfl⟩, ?_⟩)), ⟨⟨(by repeat (first | exact trivial | refine ⟨rfl, ?_⟩ | refine ⟨⟨k0, rfl, za _ (zg hkx) rfl⟩, ?_⟩)), ?_⟩, trivial⟩⟩, trivial⟩
  rotate_left
  refine ⟨⟨(by repeat (first | exact trivial | refine ⟨rfl, ?_⟩ | refine ⟨⟨k0, rfl, za _ (zg hkx) rfl⟩, ?_⟩)), ?_⟩, trivial⟩
  all_goals
   refine AWp.loop (σ := Nat) ⟨fun k => [(1, .bx 1 0), (3, .av (int (i : Nat))), (4, .bx 4 0), (5, .bx 5 0), (7, .av (int n)), (12, .bx 12 0), (13, .av (int (k : Nat)))], fun _ => [(1, zf6 s), (4, untC s.W.U[k0]), (5, vecC (remV s.V[i])), (12, vecC x.U[k0].pos)], fun k st2 => k ≤ 5 ∧ zfd s.W s.W.U[k0] (remV s.V[i]) k ∧ st2 = st', fun k => 5 - k⟩ zc ?_ ?_
   ·exact ⟨0, trivial, ⟨Nat.zero_le _, t0, rfl⟩, ⟨lr_ _, lr_ _, lr_ _, lr_ _, lr_ _, lr_ _, lr_ _, trivial⟩, ⟨rfl, rfl, rfl, rfl, trivial⟩⟩
   rintro k st2 ⟨hk, htk, rfl⟩
   dsimp only at hk htk ⊢
   refine bcd (fun d1 => ?_) (fun d1 => ?_)
   rotate_left
   ·obtain ⟨en, ex⟩ := hnone (zfy htk (fun hq => absurd hq (by omega)) hk)
    subst en
    subst ex
    refine zd (fun d2 => absurd d2 (by simp)) (fun d2 => ?_)
    refine in64 (by omega) ?_
    exact ⟨i + 1, (show s.I.length - (i + 1) < s.I.length - i by omega), ⟨hlt, rfl⟩, ⟨lr_ _, lr_ _, trivial⟩, ⟨rfl, trivial⟩⟩
   have hk5 : k < 5 := by omega
   have hsh := zq9 hk5
   have hp2 : ((2 ^ k : Nat) : Int) ≠ 0 := by have : 0 < 2 ^ k := Nat.pow_pos (by decide); omega
   have hb := hsb k
   have hst2 := hsi k
   have hstay := zlc (p := s.W.U[k0].pos) (v := remV s.V[i]) (k := k)
   have hst : zf5 s.W.U[k0].pos (remV s.V[i]) k = (s.W.U[k0].pos.1 + (remV s.V[i]).1.tdiv ((2 ^ k : Nat) : Int), s.W.U[k0].pos.2 + (remV s.V[i]).2.tdiv ((2 ^ k : Nat) : Int)) := rfl
   rw [hst] at hb hst2 hstay
   have hh1 : zz ((remV s.V[i]).1.tdiv ((2 ^ k : Nat) : Int)) := by have := hhb k; exact ⟨by show _ ≤ (s.V[i].1.tmod 262144).tdiv _; omega, by show (s.V[i].1.tmod 262144).tdiv _ ≤ _; omega⟩
   have hh2 : zz ((remV s.V[i]).2.tdiv ((2 ^ k : Nat) : Int)) := by have := hhb2 k; exact ⟨by show _ ≤ (s.V[i].2.tmod 262144).tdiv _; omega, by show (s.V[i].2.tmod 262144).tdiv _ ≤ _; omega⟩
   have nx := zod htk hk5
   have sm := zoc htk hk5
   have no := zfy htk
   rw [hst2] at nx sm
   rw [← hsh] at hp2 hb hst2 hstay hh1 hh2 nx sm
   clear hst
   refine ADraw.of_sched zc (by rfl) (by rfl) yh7 (by rfl) ?_
   refine ⟨by omega, ?_⟩
   refine ⟨hp2, in64 hh1 ?_⟩
   refine in64 hb.1 ?_
   refine ⟨by omega, ?_⟩
   refine ⟨hp2, in64 hh2 ?_⟩
   refine in64 hb.2 ?_
   refine ⟨⟨?_, ?_⟩, trivial⟩
   ·repeat (first | exact trivial | refine ⟨rfl, ?_⟩ | refine ⟨⟨by omega, rfl⟩, ?_⟩ | refine ⟨⟨hp2, in64 hh1 rfl⟩, ?_⟩ | refine ⟨⟨hp2, in64 hh2 rfl⟩, ?_⟩ | refine ⟨in64 hb.1 rfl, ?_⟩ | refine ⟨in64 hb.2 rfl, ?_⟩)
   refine ⟨⟨trivial, ?_⟩, trivial⟩
   generalize (remV s.V[i]).1.tdiv (IntKind.i64.wrap (1 * 2 ^ (min ((k : Int)).toNat IntKind.i64.bits))) = a at *
   generalize (remV s.V[i]).2.tdiv (IntKind.i64.wrap (1 * 2 ^ (min ((k : Int)).toNat IntKind.i64.bits))) = b at *
   refine zd (fun d2 => ?_) (fun d2 => ?_)
   ·have e : (s.W.U[k0].pos.1 + a, s.W.U[k0].pos.2 + b) = s.W.U[k0].pos := by
     simp only [Bool.and_eq_true, beq_iff_eq] at d2
     exact Prod.ext d2.1 d2.2.1
    obtain ⟨en, ex⟩ := hnone (no (fun _ => hstay.1 e) hk)
    subst en
    subst ex
    refine zd (fun d3 => absurd d3 (by simp)) (fun d3 => ?_)
    refine in64 (by omega) ?_
    exact ⟨i + 1, (show s.I.length - (i + 1) < s.I.length - i by omega), ⟨hlt, rfl⟩, ⟨lr_ _, lr_ _, trivial⟩, ⟨rfl, trivial⟩⟩
   have hne : x5 (remV s.V[i]) k ≠ (0, 0) := fun e => by
    have e2 := hstay.2 e
    have p1 : s.W.U[k0].pos.1 + a = s.W.U[k0].pos.1 := congrArg (fun x : Vc => x.1) e2
    have p2 : s.W.U[k0].pos.2 + b = s.W.U[k0].pos.2 := congrArg (fun x : Vc => x.2) e2
    rw [p1, p2] at d2
    simp at d2
   refine zhi s.W hw s.W.U[k0].id s.W.U[k0].kind hkk (s.W.U[k0].pos.1 + a, s.W.U[k0].pos.2 + b) hb _ _ (fun z hz => ?_)
   refine zd (fun d3 => ?_) (fun d3 => ?_)
   ·obtain ⟨en, ex⟩ := hsome _ _ (sm hne (hz.1 d3))
    have hpos : x.U[k0].pos = (s.W.U[k0].pos.1 + a, s.W.U[k0].pos.2 + b) := by
     simp only [ex]
     obtain ⟨g1, g2⟩ := zlo hm.1.2.1 hk0 (u := { s.W.U[k0] with pos := (s.W.U[k0].pos.1 + a, s.W.U[k0].pos.2 + b) }) rfl
     rw [g2]
    subst en
    refine bcne (fun d4 => absurd rfl d4) (fun d4 => ?_)
    refine zd (fun d5 => ?_) (fun d5 => ?_)
    ·exfalso
     rw [hpos] at d5
     simp at d5
    refine bceq (fun d6 => absurd d6 (by omega)) (fun d6 => ?_)
    refine in64 (by omega) ?_
    exact ⟨i + 1, (show s.I.length - (i + 1) < s.I.length - i by omega), ⟨hlt, rfl⟩, ⟨lr_ _, lr_ _, trivial⟩, ⟨rfl, trivial⟩⟩
   have nx2 := nx hne (fun hc => by rw [hz.2 hc] at d3; cases d3)
   refine bceq (fun d4 => absurd d4 (hnk2 k nx2 hk5)) (fun d4 => ?_)
   refine in64 (by omega) ?_
   exact ⟨k + 1, (show 5 - (k + 1) < 5 - k by omega), ⟨by omega, nx2, rfl⟩, ⟨lr_ _, lr_ _, lr_ _, lr_ _, lr_ _, lr_ _, lr_ _, trivial⟩, ⟨rfl, rfl, rfl, rfl, trivial⟩⟩
end Go.Proofs
namespace Go.Proofs.YtbemejeejgpkaaaGreat
open Go Go.V Go.ChangeShapes Go.WideShapes Go.ChangeAt Go.RowKit
theorem own : ownKnob Tryz.prog.godebug = none := by kernel_rfl
theorem laid : laidOutB Tryz.prog = true := by kernel_rfl
theorem agg_cells {P : Program} {w : World} {r : Reach} {base : Nat} {t : TypeId} {fs : Array Field} {v : Value} (ht : P.underlying t = some (.struct fs)) (h : Value.okWide P w r base t v) : ∃ cs, v = .agg cs := by
 simp only [Value.okWide, ht] at h
 cases v <;> simp_all [Cell.okWide, Cell.ok]
set_option maxRecDepth 100000 in
theorem moveWhole_lifted (os : Os) (started : os.Started) (H : Type) (enc : TypeId × Value → H) :
  ReturnsInHanded {} Tryz.checked os 9 .any (Rows.moveWholeSpec.pre6 enc Tryz.prog Tryz.f9 Rows.moveWholeRow.domain false) (Rows.moveWholeSpec.post enc Tryz.prog Tryz.f9 false true false false) := by
 refine returnsInHanded_of_change_sized (C := Tryz.checked) own started (by kernel_rfl) Tryz.func9
  (ChangeSpec.witness6 (enc := enc) (C := Tryz.checked) false ⟨#[], #[.agg #[.int .i64 0, .int .i64 0, .int .i64 0, .int .i64 0, .int .i64 0, .slice none 0 0, .slice none 0 0, .slice none 0 0, .slice none 0 0, .slice none 0 0]], []⟩ 8 (by kernel_rfl) (by kernel_rfl) (by kernel_rfl) (by kernel_rfl)) ?_
 intro W base args ds gs before hval0 hW hcnd hsz _
 have hval : ∀ (j : Nat) t v, Tryz.f9.params[j]? = some t → args[j]? = some v → Value.okWide Tryz.prog W .any base t v := hval0
 have hW' := hW
 obtain ⟨p, q, hA0, hV, rfl, hfz, hnd⟩ := hW
 have hA : DataW.TrodAll enc Tryz.prog W 0 (fun _ => true) true Tryz.f9.params.toList args.toList ds p := hA0
 rw [Tryz.params9] at hA hval
 obtain ⟨v, d, rfl, rfl, hd⟩ := trodAll_one hA
 obtain ⟨rfl, rfl⟩ := trodVars_none hV
 obtain ⟨fuel, hd0⟩ := hd
 have hw : ∀ n ∈ d.weights Tryz.prog 32, n ≤ reachBytes := fun n hn => by
  have h2 := List.all_eq_true.1 hsz n (DataW.weights_mem_each (j := 0) (t := 32) (d := d) (by rfl) (by rfl) n hn)
  simpa using h2
 obtain ⟨l, hl, hc⟩ := scr24_codec.out enc W 0 true fuel _ _ hd0 hw
 obtain ⟨cs, rfl⟩ := agg_cells Tryz.underlying32 (hval 0 _ v rfl rfl)
 have hv : VRel W T0 (.agg (zf6 l)) (.agg cs) := by
  refine VRel.agg _ _ ?_ fun i x y hx hy => (hc.2 i x y hx ?_).1
  ·exact hc.1.trans (by simp [Value.cells])
  ·simpa [Value.cells] using hy
 have hlt : ∀ x ∈ p, x.block < W.heap.size := fun x hx => hW'.lt x (by simpa using hx)
 clear hA0 hval0
 refine (ze4 Tryz.func9 rfl (by rfl) (R := fun r => r = V.bool true) (zhl l hl _ (fun r _ => r = V.bool true) rfl) hv).mono fun e W' ⟨r, u, he, hr, ⟨T, hvr⟩, hb⟩ => ?_
 subst hr
 have hu : u = .bool true := VRel.eq_s hvr
 subst hu
 subst he
 refine ⟨_, rfl, zlp (pa := p) (pv := []) hW' (fun _ _ _ => trodAll_cons_mk (shut_bool Tryz.underlying4 _) trodAll_mk0) (fun sp hsp => ?_) (fun _ _ => rfl) rfl (Below.kept hb _) (Below.froz hb) (ok_one (by kernel_rfl) rfl (okWide_bool_mk Tryz.underlying4 _))⟩
 exact trodAll_mk1 (WideElems.Trod_stays laid (by kernel_rfl) (of_decide_eq_true (by kernel_rfl)) ⟨fuel, hd0⟩ (fun x hx => hb.same (hlt x hx)) (fun x hx => hsp x (by simpa using hx)))
set_option maxHeartbeats 4000000 in
theorem closed : joinedFacts Tryz.pinned.checked.prog 9 Tryz.f9 Rows.moveWholeSpec Rows.moveWholeRow = true := by
 unfold joinedFacts
 repeat (refine (Bool.and_eq_true_iff).2 ⟨?_, ?_⟩)
 all_goals (as_aux_lemma => kernel_rfl)
theorem moveWhole_proved : Rows.MoveWholeSaid :=
 OpenClaim.holds_of_wide 9 Tryz.f9 rfl rfl rfl rfl rfl rfl rfl ⟨rfl, rfl, rfl, rfl, rfl⟩ rfl rfl rfl rfl rfl (by kernel_rfl) Tryz.func9 closed
  (of_decide_eq_true (by kernel_rfl)) (by unfold Func.isWrapper; first | (rw [if_pos (by decide +kernel)]; kernel_rfl) | (rw [if_neg (by decide +kernel)]; exact ⟨rfl, rfl⟩))
  (fun os started H enc _ => moveWhole_lifted os started H enc)
#print axioms moveWhole_proved
end Go.Proofs.YtbemejeejgpkaaaGreat
