/- The ground on which laws of thronglaw23 are proved: contracts of functions and plain lemmas; no condition beyond the row's own. -/
import Derived.Test.YtlmechfgnfepoaaGreatSK
import Derived.Test.YtlmechfgnfepoaaGreatSC
import Derived.Test.YtlmechfgnfepoaaGreatSI
import Derived.Test.YtlmechfgnfepoaaGreatSG
import Derived.Test.YtlmechfgnfepoaaGreatSJ
set_option linter.unusedSimpArgs false
set_option linter.unusedVariables false
namespace Go.Proofs
open Go Go.V
theorem zr8 (m : Int) (hm : 0 ≤ m) (st : Store) (R : AV → Store → Prop) (h : ∀ r, zdu m r → R (int r) st) : ACalls Tryz.prog 226 [.agg (vl m)] st R := by
 refine ACalls.of_body (c := cfg 22) ze Tryz.func226 (by rfl) (by rfl) (by rfl) (by rfl) ?_
 refine AWp.loop (σ := Nat × Int) ⟨fun x => [(1, .bx 1 0), (3, .av (u64 x.2)), (4, .av (int ((x.1 : Int) - 1)))], fun _ => [(1, vl m)],
  fun x st' => x.1 ≤ 63 ∧ st' = st ∧ zdo m x.2 x.1, fun x => x.1⟩ ze ?_ ?_
 ·exact ⟨(63, 0), trivial, ⟨Nat.le_refl _, rfl, zj3 hm⟩, ⟨lr_ _, lr_ _, lr_ _, trivial⟩, ⟨rfl, trivial⟩⟩
 rintro ⟨k, r⟩ st' ⟨hk, rfl, hr⟩
 dsimp only at hk hr ⊢
 refine bcd (fun h1 => ?_) (fun h1 => ?_)
 rotate_left
 ·have : k = 0 := by omega
  subst this
  have hi := zpl hr
  have h2 := h r hi
  have hi0 := hi.1
  exact ⟨⟨by omega, hi.2.1⟩, ret h2⟩
 cases k with
 | zero => omega
 | succ k =>
  obtain ⟨e1, e2, e3, e4⟩ := zpm hr
  have e5 : ((k + 1 : Nat) : Int) - 1 = (k : Int) := by omega
  refine ⟨by omega, ?_⟩
  have e7 : x8 .or .u64 r (IntKind.u64.wrap (1 * 2 ^ (min (((k + 1 : Nat) : Int) - 1).toNat IntKind.u64.bits))) = r + 2 ^ k := by rw [e5, shl1 (by omega), e1]
  have e8 : ∀ X, X = r + 2 ^ k → 0 ≤ X ∧ X < 18446744073709551616 ∧ 0 ≤ X * X := fun X hX => by subst hX; exact ⟨by omega, by omega, Int.mul_nonneg (by omega) (by omega)⟩
  have e8 := e8 _ e7
  refine ADraw.of_sched ze (by rfl) (by rfl) zz3 (by rfl) ?_
  refine ⟨vj _ e8.1 e8.2.1 _ _ ⟨(by repeat (first | exact trivial | refine ⟨rfl, ?_⟩ | refine ⟨optR (optR (optR (za _ (zb _ _ _) rfl))), ?_⟩)), ?_⟩, trivial⟩
  refine ⟨zhr m _ hm e8.2.2 _ _ ⟨(by repeat (first | exact trivial | refine ⟨rfl, ?_⟩ | refine ⟨optR (optR (optR (za _ (zb _ _ _) rfl))), ?_⟩)), ?_⟩, trivial⟩
  have no := fun hh => zr9 hr hh
  have yes := fun hh => zpk hr hh
  rw [← e7] at no yes
  generalize x8 .or .u64 r (IntKind.u64.wrap (1 * 2 ^ (min (((k + 1 : Nat) : Int) - 1).toNat IntKind.u64.bits))) = X at *
  refine yc ?_
  refine bcd (fun c1 => ?_) (fun c1 => ?_)
  ·refine ⟨by unfold yn; omega, ?_⟩
   refine ⟨(k, r), ?_, ⟨by dsimp only; omega, rfl, no c1⟩, ⟨lr_ _, lr_ _, ?_, trivial⟩, ⟨rfl, trivial⟩⟩
   ·show k < k + 1
    omega
   ·rw [e5]; exact lr_ _
  ·refine ⟨by unfold yn; omega, ?_⟩
   refine ⟨(k, X), ?_, ⟨by dsimp only; omega, rfl, yes (by omega)⟩, ⟨lr_ _, lr_ _, ?_, trivial⟩, ⟨rfl, trivial⟩⟩
   ·show k < k + 1
    omega
   ·rw [e5]; exact lr_ _
theorem zpi (m : Int) (hm : 0 ≤ m) (st : Store) (R : AV → Store → Prop) (h : ∀ r, zdu m r → R (u64 r) st) : ACalls Tryz.prog 178 [.agg (vl m), u64 9223372036854775807] st R := by
 refine ACalls.of_body (c := cfg 28) ze Tryz.func178 (by rfl) (by rfl) (by rfl) (by rfl) ?_
 refine AWp.loop (σ := Int × Int) ⟨fun x => [(2, .bx 2 0), (5, .av (u64 x.1)), (6, .av (u64 x.2))], fun _ => [(2, vl m)],
  fun x st' => st' = st ∧ ze6 m x.1 x.2, fun x => (x.2 - x.1).toNat⟩ ze ?_ ?_
 ·exact ⟨(0, 9223372036854775807), trivial, ⟨rfl, zj4 hm⟩, ⟨lr_ _, lr_ _, lr_ _, trivial⟩, ⟨rfl, trivial⟩⟩
 rintro ⟨l, u⟩ st' ⟨rfl, hr⟩
 dsimp only at hr ⊢
 refine bcd (fun h1 => ?_) (fun h1 => ?_)
 rotate_left
 ·exact ret (h l (zpn hr h1))
 have b1 := hr.1
 have b2 := hr.2.2.1
 have w1 : IntKind.u64.wrap (u - l) = u - l := qy (by omega) (by omega)
 have w2 : IntKind.u64.wrap (u - l + 1) = u - l + 1 := qy (by omega) (by omega)
 have hd : 0 ≤ (u - l + 1) / 2 ∧ (u - l + 1) / 2 ≤ u - l ∧ 1 ≤ (u - l + 1) / 2 := by omega
 have w3 : IntKind.u64.wrap ((u - l + 1) / 2) = (u - l + 1) / 2 := qy (by omega) (by omega)
 have w4 : IntKind.u64.wrap (l + (u - l + 1) / 2) = l + (u - l + 1) / 2 := qy (by omega) (by omega)
 have wX : IntKind.u64.wrap (l + IntKind.u64.wrap ((IntKind.u64.wrap (IntKind.u64.wrap (u - l) + 1)).tdiv 2)) = l + (u - l + 1) / 2 := by
  rw [w1, w2, show (u - l + 1).tdiv 2 = (u - l + 1) / 2 from Int.tdiv_eq_ediv_of_nonneg (by omega), w3, w4]
 have e8 : ∀ X, X = l + (u - l + 1) / 2 → 0 ≤ X ∧ X < 18446744073709551616 ∧ 0 ≤ X * X ∧ l < X ∧ X ≤ u := fun X hX => by
  have h0 : 0 ≤ X := by omega
  exact ⟨h0, by omega, Int.mul_nonneg h0 h0, by omega, by omega⟩
 have e8 := e8 _ wX
 refine ⟨by decide, ?_⟩
 refine ADraw.of_sched ze (by rfl) (by rfl) zz9 (by rfl) ?_
 refine ⟨zas _ _ e8.1 e8.2.1 e8.1 e8.2.1 _ _ ⟨(by repeat (first | exact trivial | refine ⟨rfl, ?_⟩ | refine ⟨optR (optR (optR (za _ (zb _ _ _) rfl))), ?_⟩)), ?_⟩, trivial⟩
 refine ⟨zkn m _ hm e8.2.2.1 _ _ ⟨(by repeat (first | exact trivial | refine ⟨rfl, ?_⟩ | refine ⟨optR (optR (optR (za _ (zb _ _ _) rfl))), ?_⟩)), ?_⟩, trivial⟩
 generalize IntKind.u64.wrap (l + IntKind.u64.wrap ((IntKind.u64.wrap (IntKind.u64.wrap (u - l) + 1)).tdiv 2)) = X at *
 refine bcd (fun c1 => ?_) (fun c1 => ?_)
 ·have w5 : IntKind.u64.wrap (X - 1) = X - 1 := qy (by omega) (by omega)
  refine ⟨(l, X - 1), ?_, ⟨rfl, zsb hr e8.2.2.2.1 e8.2.2.2.2 c1⟩, ⟨lr_ _, lr_ _, ?_, trivial⟩, ⟨rfl, trivial⟩⟩
  ·show (X - 1 - l).toNat < (u - l).toNat
   omega
  ·show LV.le (.av (u64 (IntKind.u64.wrap (X - 1)))) (.av (u64 (X - 1)))
   rw [w5]
   exact lr_ _
 ·refine ⟨(X, u), ?_, ⟨rfl, zsa hr e8.2.2.2.1 e8.2.2.2.2 (Int.not_lt.1 c1)⟩, ⟨lr_ _, lr_ _, lr_ _, trivial⟩, ⟨rfl, trivial⟩⟩
  show (u - X).toNat < (u - l).toNat
  omega
theorem yb2 (v : Vc) (hv : v.ok) (st : Store) (R : AV → Store → Prop) (h : ∀ r, zdu (sqr v) r → R (int r) st) : ACalls Tryz.prog 207 [.agg (vecC v)] st R := by
 have hb := zpc hv
 refine ACalls.of_body (c := cfg 6) ze Tryz.func207 (by rfl) (by rfl) (by rfl) (by rfl) ?_
 refine zey v hv _ _ ?_
 refine zr8 (sqr v) (by unfold sqr; omega) _ _ (fun r hr => ?_)
 exact ret (h r hr)
theorem zse (v : Vc) (hv : v.ok) (st : Store) (R : AV → Store → Prop) (h : ∀ r, zdu (sqr v) r → R (int r) st) : ACalls Tryz.prog 130 [.agg (vecC v)] st R := by
 have hb := zpc hv
 refine ACalls.of_body (c := cfg 7) ze Tryz.func130 (by rfl) (by rfl) (by rfl) (by rfl) ?_
 refine zb6 v hv _ _ ?_
 refine zpi (sqr v) (by unfold sqr; omega) _ _ (fun r hr => ?_)
 have h0 := hr.1
 exact ⟨⟨by omega, hr.2.1⟩, ret (h r hr)⟩
theorem zou (p q : Vc) (hp : p.ok) (hq : q.ok) (st : Store) (R : AV → Store → Prop) (h : R (V.bool (decide (farP p q))) st) : ACalls Tryz.prog 173 [.agg (vecC p), .agg (vecC q)] st R := by
 refine ACalls.of_body (c := cfg 10) ze Tryz.func173 (by rfl) (by rfl) (by rfl) (by rfl) ?_
 refine zja p q hp hq _ _ ?_
 refine yb2 _ (zcu p q) _ _ (fun r hr => ?_)
 refine ret ?_
 rw [show decide (farP p q) = decide (131072 < r) from by rw [Bool.eq_iff_iff]; simp only [decide_eq_true_eq]; exact (zn9 hr).symm] at h
 exact h
theorem zfa (p q : Vc) (hp : p.ok) (hq : q.ok) (st : Store) (R : AV → Store → Prop) (h : R (V.bool (decide (farP p q))) st) : ACalls Tryz.prog 92 [.agg (vecC p), .agg (vecC q)] st R := by
 refine ACalls.of_body (c := cfg 10) ze Tryz.func92 (by rfl) (by rfl) (by rfl) (by rfl) ?_
 refine zg0 p q hp hq _ _ ?_
 refine zse _ (zcu p q) _ _ (fun r hr => ?_)
 refine ret ?_
 rw [show decide (farP p q) = decide (131072 < r) from by rw [Bool.eq_iff_iff]; simp only [decide_eq_true_eq]; exact (zn9 hr).symm] at h
 exact h
end Go.Proofs
namespace Go.Proofs
open Go Go.V
theorem zot {l : List Unt} (hr : yk l) {id : Int} {i : Nat} {z : Bool} (h : z = true ↔ ∃ hi : i < l.length, l[i].id = id) (hat : isAt l id i) : (z = true → yp l id = some i) ∧ (z = false → yp l id = none) := by
 refine ⟨fun hz => ?_, fun hz => ?_⟩
 ·obtain ⟨hi, e⟩ := h.1 hz
  exact zel hr hi e
 ·cases hf : yp l id with
  | none => rfl
  | some k =>
   obtain ⟨hk, e⟩ := xk hf
   have hno : ¬ ∃ hi : i < l.length, l[i].id = id := fun hh => by rw [h.2 hh] at hz; cases hz
   by_cases h1 : k < i
   ·have := hat.2.1 k hk h1; omega
   ·have hil : i < l.length := by omega
    have := hat.2.2 i hil (Nat.le_refl _)
    by_cases h2 : i < k
    ·have := zb8 hr h2 hk; omega
    ·have e3 : k = i := by omega
     subst e3
     exact absurd ⟨hk, e⟩ hno
/-- A place of work, as it is read. -/
structure AtW (S : Store) (xw s p : Nat) (w : Wld) (v o0 o1 o2 : AV) (c : Cmd) (fv : AV) : Prop where
 hx : S.obj xw = some (.cells (wkC s c fv))
 hs : S.obj s = some (.cells (svC w v o0 o1 o2 p))
 hr : RowsQ 10 untC S v w.U
theorem zi7 {S : Store} {xw s p : Nat} {w : Wld} {v o0 o1 o2 : AV} {c : Cmd} {fv : AV} (ha : AtW S xw s p w v o0 o1 o2 c fv) (hr : yk w.U) (hU : w.U.length ≤ 1000000) (id : Int) (R : AV → Store → Prop) (h : R (.tup [.agg (untC (uAt w id)), int (askE w c.P id)]) S) : ACalls Tryz.prog 201 [ptr xw, int id] S R := by
 obtain ⟨hx, hs, hv⟩ := ha
 obtain ⟨oa, cap, e, hget⟩ := hv.form
 subst e
 refine ACalls.of_body (c := cfg 52) ze Tryz.func201 (by rfl) (by rfl) (by rfl) (by rfl) ?_
 refine za (o := S.obj xw) _ hx ?_
 refine za (o := S.obj s) _ hs ?_
 refine zep hv (by omega) hr id _ (fun i hi z hz => ?_)
 obtain ⟨g1, g2⟩ := zot hr hz hi
 cases z with
 | false =>
  obtain ⟨e1, e2⟩ := zcr (w := w) (P := c.P) (g2 rfl)
  rw [e1, e2] at h
  exact ret h
 | true =>
  obtain ⟨hil, hid⟩ := hz.1 rfl
  obtain ⟨_, _, e2⟩ := zeb (w := w) (g1 rfl)
  rw [e2, zf6 (P := c.P) (g1 rfl) hil] at h
  refine za (o := S.obj xw) _ hx ?_
  refine za (o := S.obj s) _ hs ?_
  obtain ⟨b, J, rfl, hob⟩ := hget i hil
  refine ⟨i, rfl, hil, ?_⟩
  refine za (o := S.obj b) _ hob ?_
  refine z7 (i := ti50) (row := untC w.U[i]) rfl rfl (zy zm hil) ?_
  refine ADraw.of_sched ze (by rfl) (by rfl) zz6 (by rfl) ?_
  refine za (o := S.obj xw) _ hx ?_
  refine ⟨⟨(by repeat (first | exact trivial | refine ⟨rfl, ?_⟩ | refine ⟨optR (optR (optR (za _ (zb _ _ _) rfl))), ?_⟩)), ?_⟩, trivial⟩
  refine bcne (fun c1 => ?_) (fun c1 => ?_)
  ·rw [if_neg c1] at h
   exact ret h
  rw [if_pos c1] at h
  refine bcne (fun c2 => ?_) (fun c2 => ?_)
  ·rw [if_neg c2] at h
   exact ret h
  ·rw [if_pos c2] at h
   exact ret h
theorem all_nil {S : Store} {xw s p : Nat} {w : Wld} {v o0 o1 o2 : AV} {c : Cmd} {fv : AV} (ha : AtW S xw s p w v o0 o1 o2 c fv) (hr : yk w.U) (hU : w.U.length ≤ 1000000) (hc : c.U.length ≤ 1000000) (R : AV → Store → Prop)
  (h : allE (askE w c.P) c.U = 0 → R (.tup [lst 10 untC (c.U.map (uAt w)), int 0]) S) (h' : allE (askE w c.P) c.U ≠ 0 → R (.tup [.s (.slice none 0 0), int (allE (askE w c.P) c.U)]) S) : ACalls Tryz.prog 163 [ptr xw, .s .nilFunc] S R := by
 refine ACalls.of_body (c := cfg 44) ze Tryz.func163 (by rfl) (by rfl) (by rfl) (by rfl) ?_
 refine za (o := S.obj xw) _ ha.hx ?_
 refine AWp.loop (σ := Nat × AV) ⟨fun x => [(0, .av (ptr xw)), (1, .av (.s .nilFunc)), (4, .av x.2), (14, .av (ints c.U)), (15, .av (int (c.U.length : Nat))), (16, .av (int (x.1 : Nat)))], fun _ => [],
  fun x st' => x.1 ≤ c.U.length ∧ App 10 S x.2 (rws untC ((c.U.take x.1).map (uAt w))) st' ∧ ∀ j, (hj : j < c.U.length) → j < x.1 → askE w c.P c.U[j] = 0, fun x => c.U.length - x.1⟩ ze ?_ ?_
 ·refine ⟨(0, _), trivial, ⟨Nat.zero_le _, App.start 10 S, fun j _ hj => by omega⟩, ⟨lr_ _, lr_ _, lr_ _, lr_ _, ?_, lr_ _, trivial⟩, trivial⟩
  rw [← zf (f := intC) c.U]; exact lr_ _
 rintro ⟨i, v2⟩ st' ⟨hi, hap, hall⟩
 dsimp only at hi hap hall ⊢
 refine bcd (fun h1 => ?_) (fun h1 => ?_)
 rotate_left
 ·have : i = c.U.length := by omega
  subst this
  rw [List.take_length] at hap
  exact ⟨_, _, AV.le_tupL (xs := [v2, int 0]) (ys := [lst 10 untC (c.U.map (uAt w)), int 0]) ⟨AV.le_trans hap.le (ar_ _), ar_ _, trivial⟩, hap.has, h (zar fun j hj => hall j hj hj)⟩
 have hlt : i < c.U.length := by omega
 have ha' : AtW st' xw s p w v o0 o1 o2 c fv := ⟨by rw [hap.obj]; exact ha.hx, by rw [hap.obj]; exact ha.hs, ha.hr.sub fun _ _ _ _ => by rw [hap.obj]⟩
 refine ⟨i, rfl, za _ (zi hlt) ?_⟩
 refine zi7 ha' hr hU c.U[i] _ ?_
 refine bceq (fun c1 => ?_) (fun c1 => ?_)
 rotate_left
 ·refine bcne (fun c2 => ?_) (fun c2 => absurd c2 c1)
  have e := qe hlt hall c1
  have := h' (by rw [e]; exact c1)
  rw [e] at this
  exact ⟨_, _, ar_ _, hap.has, this⟩
 refine bcne (fun c2 => absurd c1 c2) (fun c2 => ?_)
 refine ⟨by decide, ?_⟩
 refine yj (ie := ti50) (rows' := [untC (uAt w c.U[i])]) hap ?_ ?_ ⟨?_, ?_⟩ (fun v3 st3 ha3 => ?_)
 ·rfl
 ·rfl
 ·simp only [zf, List.length_map, List.length_take, List.length_singleton, ti50]; omega
 ·simp only [zf, List.length_map, List.length_take, List.length_singleton]; omega
 refine in64 (by omega) ?_
 refine ⟨(i + 1, v3), ?_, ⟨by dsimp only; omega, ?_, fun j hj hji => ?_⟩, ⟨lr_ _, lr_ _, lr_ _, lr_ _, lr_ _, lr_ _, trivial⟩, trivial⟩
 ·show c.U.length - (i + 1) < c.U.length - i
  omega
 ·dsimp only
  rw [List.take_succ_eq_append_getElem hlt, List.map_append]
  unfold rws at ha3 ⊢
  rw [List.map_append]
  exact ha3
 ·by_cases e : j = i
  ·subst e; exact c1
  ·exact hall j hj (by dsimp only at hji; omega)
theorem zso {F G : Store} {s p : Nat} {w : Wld} {v : AV} {L : List Ent} {o0 o1 o2 : AV} (hS : StandR F G s p w v L o0 o1 o2) (hos : offB v s) (hr : yk w.U) (hU : w.U.length ≤ 1000000) (hL : L.length ≤ 1000000) (hok : ∀ e ∈ L, e.2.ok) {i : Nat} (hi : i < w.U.length) (u : Unt) (hid : w.U[i].id = u.id) (hp : u.pos.ok) (R : AV → Store → Prop)
  (h : ∀ F' G', StandR F' G' s p { w with U := w.U.set i u } v (entP L u) o0 o1 o2 → (∀ q, offB v q → G'.obj q = G.obj q) → R (.tup []) (F'.un (svS G' s { w with U := w.U.set i u } v o0 o1 o2 p))) :
  ACalls Tryz.prog 165 [ptr s, .agg (untC u)] (F.un (svS G s w v o0 o1 o2 p)) R := by
 have hrow : RowsQ 10 untC (F.un (svS G s w v o0 o1 o2 p)) v w.U := (vz hS.hs hS.hu).un
 have hs0 : (F.un (svS G s w v o0 o1 o2 p)).obj s = some (.cells (svC w v o0 o1 o2 p)) := un_r (xl _ _ _ _ _ _ _ _)
 rcases hS.hu with (⟨_, hl0⟩ | ⟨b, cap, J, rfl, ho, hc1, hc2, hc3⟩) | ⟨_, _, _, hl0⟩
 ·rw [hl0] at hi; exact absurd hi (Nat.not_lt_zero i)
 rotate_left
 ·rw [hl0] at hi; exact absurd hi (Nat.not_lt_zero i)
 have hbs : b ≠ s := hos b _ _ rfl (by omega)
 have hob : (F.un (svS G s w (.s (.slice (some ⟨b, 0, none⟩) w.U.length cap)) o0 o1 o2 p)).obj b = some (.cells ((rws untC w.U).flatten ++ J)) := un_r (by
  show (G.setObj s _).obj b = _
  rw [zh hbs]; exact ho)
 refine ACalls.of_body (c := cfg 44) ze Tryz.func165 (by rfl) (by rfl) (by rfl) (by rfl) ?_
 refine ADraw.of_sched ze (by rfl) (by rfl) yao (by rfl) ?_
 refine za (o := (F.un (svS G s w _ o0 o1 o2 p)).obj s) _ hs0 ?_
 refine ⟨zep hrow (by omega) hr u.id _ (fun k hk z hz => ⟨(by repeat (first | exact trivial | refine ⟨rfl, ?_⟩ | refine ⟨optR (optR (optR (za _ (zb _ _ _) rfl))), ?_⟩)), ?_⟩), trivial⟩
 have hki : k = i := by
  by_cases h1 : k < i
  ·have := hk.2.2 k (by omega) (Nat.le_refl _)
   have := zb8 hr h1 hi
   omega
  ·by_cases h2 : i < k
   ·have := hk.2.1 i hi h2; omega
   ·omega
 subst hki
 refine ⟨⟨trivial, ?_⟩, trivial⟩
 refine ⟨⟨trivial, ?_⟩, trivial⟩
 refine ADraw.of_sched ze (by rfl) (by rfl) yan (by rfl) ?_
 refine za (o := (F.un (svS G s w _ o0 o1 o2 p)).obj s) _ hs0 ?_
 refine ⟨k, rfl, hi, ?_⟩
 refine ⟨?_, trivial⟩
 refine za _ rfl (qb rfl (qk (v := .agg (untC u)) rfl rfl rfl rfl ?_))
 refine yu (i := ti50) (v := .agg (untC u)) (xs := untC u) (b := b) (o := 0 + k * 10) (l := (rws untC w.U).flatten ++ J) rfl rfl rfl hob (by rw [List.length_append, zk zm, zm]; omega) ?_
 have e0 : (F.un (svS G s w (.s (.slice (some ⟨b, 0, none⟩) w.U.length cap)) o0 o1 o2 p)).setObj b (.cells (zn ((rws untC w.U).flatten ++ J) (0 + k * 10) (untC u))) = F.un (svS (G.setObj b (.cells ((rws untC (w.U.set k u)).flatten ++ J))) s { w with U := w.U.set k u } (.s (.slice (some ⟨b, 0, none⟩) w.U.length cap)) o0 o1 o2 p) := by
  rw [Nat.zero_add, ybo zm hi u J, zw]
  unfold svS
  rw [ko hbs]
  rfl
 rw [e0]
 have hG : ∀ q, q ≠ b → (G.setObj b (.cells ((rws untC (w.U.set k u)).flatten ++ J))).obj q = G.obj q := fun q hq => zh hq
 have hS' : StandR F (G.setObj b (.cells ((rws untC (w.U.set k u)).flatten ++ J))) s p { w with U := w.U.set k u } (.s (.slice (some ⟨b, 0, none⟩) w.U.length cap)) L o0 o1 o2 := by
  refine ⟨hS.hc, fun j h1 h2 => hS.hd j h1 (svS_has.2 ?_), ?_, .inl (.inr ⟨b, cap, J, by rw [List.length_set], zb _ _ _, by rw [List.length_set]; exact hc1, by rw [List.length_set]; exact hc2, hc3⟩), hS.h0, hS.h1, hS.h2⟩
  ·rcases svS_has.1 h2 with h2 | h2
   ·exact .inl h2
   ·rcases has_setObj_iff.1 h2 with rfl | h2
    ·exact .inr (kw ho)
    ·exact .inr h2
  ·rw [hG s (Ne.symm hbs)]; exact hS.hs
 have hoffG : ∀ q, offB (.s (.slice (some ⟨b, 0, none⟩) w.U.length cap)) q → (G.setObj b (.cells ((rws untC (w.U.set k u)).flatten ++ J))).obj q = G.obj q := fun q hq => hG q (Ne.symm (hq b _ _ rfl (by omega)))
 generalize G.setObj b _ = G1 at hS' hoffG ⊢
 have hs1 : (F.un (svS G1 s { w with U := w.U.set k u } (.s (.slice (some ⟨b, 0, none⟩) w.U.length cap)) o0 o1 o2 p)).obj s = some (.cells (svC w (.s (.slice (some ⟨b, 0, none⟩) w.U.length cap)) o0 o1 o2 p)) := un_r (xl _ _ _ _ _ _ _ _)
 refine ⟨trivial, ?_⟩
 refine bceq (fun c1 => ?_) (fun c1 => ?_)
 ·refine ADraw.of_sched ze (by rfl) (by rfl) yam (by rfl) ?_
  refine za (o := (F.un (svS G1 s _ _ o0 o1 o2 p)).obj s) _ hs1 ?_
  refine ⟨yhl hS'.hc hS'.hd (by omega) hok u.id u.pos hp _ (fun F2 h2 h3 => ⟨trivial, ?_⟩), trivial⟩
  have e9 : entP L u = yf L u.id ++ [(u.id, u.pos)] := if_pos c1
  exact ret (h F2 G1 ⟨by rw [e9]; exact h2, h3, hS'.hs, hS'.hu, hS'.h0, hS'.h1, hS'.h2⟩ hoffG)
 ·refine ADraw.of_sched ze (by rfl) (by rfl) yal (by rfl) ?_
  refine za (o := (F.un (svS G1 s _ _ o0 o1 o2 p)).obj s) _ hs1 ?_
  refine ⟨ycl hS'.hc hS'.hd (by omega) hok u.id _ (fun F2 h2 h3 => ⟨trivial, ?_⟩), trivial⟩
  have e9 : entP L u = yf L u.id := if_neg c1
  exact ret (h F2 G1 ⟨by rw [e9]; exact h2, h3, hS'.hs, hS'.hu, hS'.h0, hS'.h1, hS'.h2⟩ hoffG)
theorem zef {F G : Store} {s p : Nat} {w : Wld} {v : AV} {L : List Ent} {o0 o1 o2 : AV} (hS : StandR F G s p w v L o0 o1 o2) (hos : offB v s) (hr : yk w.U) (hU : w.U.length ≤ 1000000) (hL : L.length ≤ 1000000) (hok : ∀ e ∈ L, e.2.ok) {i : Nat} (hi : i < w.U.length) (u : Unt) (hid : w.U[i].id = u.id) (hp : u.pos.ok) (R : AV → Store → Prop)
  (h : ∀ F' G' L', StandR F' G' s p { w with U := w.U.set i u } v L' o0 o1 o2 → (∀ q, offB v q → G'.obj q = G.obj q) → L'.length ≤ L.length + 1 → (∀ e ∈ L', e.2.ok) → R (.tup []) (F'.un (svS G' s { w with U := w.U.set i u } v o0 o1 o2 p))) :
  ACalls Tryz.prog 165 [ptr s, .agg (untC u)] (F.un (svS G s w v o0 o1 o2 p)) R :=
 zso hS hos hr hU hL hok hi u hid hp R fun F' G' h1 h2 => h F' G' _ h1 h2 (ycd L u) (yhf hok hp)
end Go.Proofs
namespace Go.Proofs
open Go Go.V
set_option maxHeartbeats 1000000 in
theorem zo4 {F G : Store} {xw s p : Nat} {w : Wld} {v : AV} {L : List Ent} {o0 o1 o2 : AV} {c : Cmd} {fv : AV} (hW : Work F G xw s p w v L o0 o1 o2 c fv) (hm : MayF w) (hn : ∀ u ∈ w.U, u.pos.ok) (hc : c.U.length ≤ 64) (R : AV → Store → Prop)
  (h : ∀ S', stE w c ≠ 0 → R (int (stE w c)) S') (h0 : stE w c = 0 → ∀ S', Done S' xw s c fv (stW w c) → R (int 0) S') : ACalls Tryz.prog 120 [ptr xw] (F.un (svS G s w v o0 o1 o2 p)) R := by
 have hU := hm.hU
 have hLl := hW.hL
 refine ACalls.of_body (c := cfg 27) ze Tryz.func120 (by rfl) (by rfl) (by rfl) (by rfl) ?_
 refine all_nil ⟨hW.x, hW.s, hW.r⟩ hm.hr (by omega) (by omega) _ (fun he => ?_) (fun he => ?_)
 rotate_left
 ·refine AWp.loop (σ := Unit) ⟨fun x => [(4, .av (int (stE w c))), (13, .av (int 0)), (14, .av (int 0))], fun _ => [], fun x st' => True, fun x => 0⟩ ze ?_ ?_
  ·exact ⟨(), trivial, trivial, ⟨lr_ _, lr_ _, lr_ _, trivial⟩, trivial⟩
  rintro ⟨⟩ st' _
  exact ret (h _ he)
 have hzero := ky he
 have hhe : stE w c = 0 := he
 refine AWp.loop (σ := Nat × Store × Store × List Ent) ⟨fun x => [(0, .av (ptr xw)), (4, .av (int 0)), (12, .av (lst 10 untC (c.U.map (uAt w)))), (13, .av (int (c.U.length : Nat))), (14, .av (int (x.1 : Nat)))], fun _ => [],
  fun x st' => x.1 ≤ c.U.length ∧ st' = x.2.1.un (svS x.2.2.1 s { w with U := setU (c.U.take x.1) rstU w.U } v o0 o1 o2 p) ∧ StandR x.2.1 x.2.2.1 s p { w with U := setU (c.U.take x.1) rstU w.U } v x.2.2.2 o0 o1 o2 ∧ (∀ q, offB v q → x.2.2.1.obj q = G.obj q) ∧ x.2.2.2.length ≤ L.length + x.1 ∧ ∀ e ∈ x.2.2.2, e.2.ok, fun x => c.U.length - x.1⟩ ze ?_ ?_
 ·refine ⟨(0, F, G, L), trivial, ⟨Nat.zero_le _, ?_, ?_, fun _ _ => rfl, by dsimp only; omega, kj hW.hF hn⟩, ⟨lr_ _, lr_ _, lr_ _, ?_, lr_ _, trivial⟩, trivial⟩
  ·dsimp only
   rw [List.take_zero, zau]
  ·dsimp only
   rw [List.take_zero, zau]
   exact hW.S
  ·have e : (c.U.length : Int) = ((rws untC (c.U.map (uAt w))).length : Int) := by rw [zf, List.length_map]
   rw [e]; exact lr_ _
 rintro ⟨k, F1, G1, L1⟩ st' ⟨hk, rfl, hS, hG, hL, hok⟩
 dsimp only at hk hS hG hL hok ⊢
 have hx : (F1.un (svS G1 s { w with U := setU (c.U.take k) rstU w.U } v o0 o1 o2 p)).obj xw = some (.cells (wkC s c fv)) := un_r (by
  show (G1.setObj s _).obj xw = _
  rw [zh hW.ne, hG xw hW.ox]
  exact hW.hx)
 refine bcd (fun h1 => ?_) (fun h1 => ?_)
 rotate_left
 ·have : k = c.U.length := by omega
  subst this
  rw [List.take_length] at hS hx ⊢
  exact ret (h0 hhe _ ⟨v, o0, o1, o2, p, hx, un_r (xl _ _ _ _ _ _ _ _), (vz hS.hs hS.hu).un⟩)
 have hlt : k < c.U.length := by omega
 obtain ⟨i, hi, hf, hid, hu, how, hin⟩ := qt (hzero c.U[k] (List.getElem_mem hlt))
 have hlm : k < (c.U.map (uAt w)).length := by rw [List.length_map]; exact hlt
 refine ⟨k, rfl, za _ (zi hlm) ?_⟩
 have hgm : (c.U.map (uAt w))[k] = w.U[i] := by rw [List.getElem_map, hu]
 rw [hgm]
 refine ADraw.of_sched ze (by rfl) (by rfl) ybb (by rfl) ?_
 refine za (o := (F1.un (svS G1 s _ v o0 o1 o2 p)).obj xw) _ hx ?_
 refine ⟨zfb w.U[i] _ _ ⟨(by repeat (first | exact trivial | refine ⟨rfl, ?_⟩ | refine ⟨za (o := (F1.un (svS G1 s _ v o0 o1 o2 p)).obj xw) _ hx rfl, ?_⟩)), ?_⟩, trivial⟩
 have hi2 : i < (setU (c.U.take k) rstU w.U).length := by rw [y3]; exact hi
 refine ⟨zef hS hW.os (zgz (g := rstU) (fun _ => rfl) hm.hr) (by rw [y3]; omega) (by omega) hok hi2 (rstU w.U[i]) (zh7 (g := rstU) (fun _ => rfl) hi) (hn w.U[i] (List.getElem_mem hi)) _ (fun F2 G2 L2 g1 g2 g3 g4 => ⟨trivial, ?_⟩), trivial⟩
 have e5 : c.U.take k ++ [w.U[i].id] = c.U.take (k + 1) := by rw [List.take_succ_eq_append_getElem hlt, hid]
 dsimp only at g1 ⊢
 rw [zed hm.hr hi, e5] at g1 ⊢
 refine in64 (by omega) ?_
 refine ⟨(k + 1, F2, G2, L2), ?_, ⟨by dsimp only; omega, rfl, g1, fun q hq => (g2 q hq).trans (hG q hq), by dsimp only; omega, g4⟩, ⟨lr_ _, lr_ _, lr_ _, lr_ _, lr_ _, trivial⟩, trivial⟩
 show c.U.length - (k + 1) < c.U.length - k
 omega
theorem yi9 : vk 3 stE stW := by
 intro F G xw s p w v L o0 o1 o2 c hW hm hn hc hp hk R h h0
 have hx := hW.x (F' := F) (q0 := o0) (q1 := o1) (q2 := o2)
 have hok := (Cmd.ok3 hk).1 hc.1
 refine ACalls.of_body (c := cfg 34) ze Tryz.func79 (by rfl) (by rfl) (by rfl) (by rfl) ?_
 refine za (o := (F.un (svS G s w v o0 o1 o2 p)).obj xw) _ hx ?_
 refine bceq (fun c1 => absurd (hk.symm.trans c1) (by decide)) (fun _ => ?_)
 refine bceq (fun c1 => absurd (hk.symm.trans c1) (by decide)) (fun _ => ?_)
 refine bceq (fun _ => ?_) (fun c1 => absurd hk c1)
 refine zo4 hW (mayF hm) hn hok.1.2 _ (fun S' he => ret (h S' he)) (fun he S' hd => ret (h0 he S' hd))
end Go.Proofs
namespace Go.Proofs
open Go Go.V
theorem zbl (w : Wld) (hU : w.U.length ≤ 1000000) (id : Int) (st : Store) (R : AV → Store → Prop) (h : R (int (idxI (yp w.U id))) st) : ACalls Tryz.prog 40 [.agg (wldC w), int id] st R := zg5 w hU id st R h
theorem qh {S : Store} {w : Wld} {v : AV} (hv : RowsQ 10 untC S v w.U) (hU : w.U.length ≤ 1000000) (id : Int) (R : AV → Store → Prop) (h : R (int (idxI (yp w.U id))) S) : ACalls Tryz.prog 40 [.agg (wldV w v), int id] S R :=
 ACalls.read (ys := [.agg (wldC w), int id]) (Q := fun r => r = int (idxI (yp w.U id))) (fun Oth M W vs sto hr => by
  obtain ⟨x, y, rfl, h1, h2⟩ := zca hr
  exact Reads.cons (xt hv sto h1) (Reads.cons (zo h2) Reads.nil)) (zbl w hU id _ _ rfl) (fun r hr => hr ▸ zhh _) (fun r hr => hr ▸ h)
theorem zbm (w : Wld) (hU : w.U.length ≤ 1000000) (P id : Int) (st : Store) (R : AV → Store → Prop) (h : R (int (askE w P id)) st) : ACalls Tryz.prog 86 [.agg (wldC w), int P, int id] st R := by
 refine ACalls.of_body (c := cfg 28) ze Tryz.func86 (by rfl) (by rfl) (by rfl) (by rfl) ?_
 refine zbl w hU id _ _ ?_
 refine bcd (fun c1 => ?_) (fun c1 => ?_)
 ·cases hf : yp w.U id with
  | none =>
   rw [(zcr (P := P) hf).1] at h
   exact ret h
  | some i => rw [hf] at c1; exact absurd c1 (by show ¬ ((i : Int) < 0); omega)
 cases hf : yp w.U id with
 | none => rw [hf] at c1; exact absurd (show (-1 : Int) < 0 by decide) c1
 | some i =>
  obtain ⟨hi, e, e2⟩ := zeb hf
  rw [zf6 (P := P) hf hi] at h
  refine ⟨i, rfl, za _ (zi hi) ?_⟩
  refine bcne (fun c2 => ?_) (fun c2 => ?_)
  ·rw [if_neg c2] at h
   exact ret h
  rw [if_pos c2] at h
  refine ⟨i, rfl, za _ (zi hi) ?_⟩
  refine bcne (fun c3 => ?_) (fun c3 => ?_)
  ·rw [if_neg c3] at h
   exact ret h
  ·rw [if_pos c3] at h
   exact ret h
theorem zsm (w : Wld) (hU : w.U.length ≤ 1000000) (c : Cmd) (hc : c.U.length ≤ 1000000) (st : Store) (R : AV → Store → Prop) (h : R (int (allE (askE w c.P) c.U)) st) : ACalls Tryz.prog 54 [.agg (wldC w), .agg (cmdC c)] st R := by
 refine ACalls.of_body (c := cfg 26) ze Tryz.func54 (by rfl) (by rfl) (by rfl) (by rfl) ?_
 refine AWp.loop (σ := Nat) ⟨fun i => [(2, .bx 2 0), (3, .bx 3 0), (5, .av (int (i : Nat)))], fun _ => [(2, wldC w), (3, cmdC c)],
  fun i st' => i ≤ c.U.length ∧ st' = st ∧ ∀ j, (hj : j < c.U.length) → j < i → askE w c.P c.U[j] = 0, fun i => c.U.length - i⟩ ze ?_ ?_
 ·exact ⟨0, trivial, ⟨Nat.zero_le _, rfl, fun j _ hj => by omega⟩, ⟨lr_ _, lr_ _, lr_ _, trivial⟩, ⟨rfl, rfl, trivial⟩⟩
 rintro i st' ⟨hi, rfl, hall⟩
 refine zd (fun h1 => ?_) (fun h1 => ?_)
 rotate_left
 ·have : i = c.U.length := y9 h1 hi
  subst this
  rw [zar fun j hj => hall j hj hj] at h
  exact ret h
 have hlt := yw h1
 refine ADraw.of_sched ze (by rfl) (by rfl) ygn (by rfl) ?_
 refine ⟨i, rfl, za _ (zi hlt) ?_⟩
 refine ⟨zbm w hU c.P c.U[i] _ _ ⟨trivial, ?_⟩, trivial⟩
 refine ⟨⟨trivial, ?_⟩, trivial⟩
 refine bcne (fun c1 => ?_) (fun c1 => ?_)
 ·rw [qe hlt hall c1] at h
  exact ret h
 refine in64 (by omega) ?_
 refine ⟨i + 1, ?_, ⟨by omega, rfl, fun j hj hji => ?_⟩, ⟨lr_ _, lr_ _, lr_ _, trivial⟩, ⟨rfl, rfl, trivial⟩⟩
 ·show c.U.length - (i + 1) < c.U.length - i
  omega
 ·by_cases e : j = i
  ·subst e; exact c1
  ·exact hall j hj (by omega)
theorem zg6 {S : Store} {w : Wld} {v : AV} (hv : RowsQ 10 untC S v w.U) (hU : w.U.length ≤ 1000000) (c : Cmd) (hc : c.U.length ≤ 1000000) (R : AV → Store → Prop) (h : R (int (allE (askE w c.P) c.U)) S) : ACalls Tryz.prog 54 [.agg (wldV w v), .agg (cmdC c)] S R :=
 ACalls.read (ys := [.agg (wldC w), .agg (cmdC c)]) (Q := fun r => r = int (allE (askE w c.P) c.U)) (fun Oth M W vs sto hr => by
  obtain ⟨x, y, rfl, h1, h2⟩ := zca hr
  exact Reads.cons (xt hv sto h1) (Reads.cons (zo h2) Reads.nil)) (zsm w hU c hc _ _ rfl) (fun r hr => hr ▸ zhh _) (fun r hr => hr ▸ h)
theorem ziq {S : Store} {b i j : Nat} {U : List Unt} {J : List AV} {x' : Unt} {y : AV} (ho : S.obj b = some (.cells ((rws untC U).flatten ++ J))) (hi : i < U.length) (hj : j + 1 ≤ 10) (hx : untC x' = zn (untC U[i]) j [y]) : (S.setObj b (.cells (zn ((rws untC U).flatten ++ J) (0 + i * 10 + j) [y]))).obj b = some (.cells ((rws untC (U.set i x')).flatten ++ J)) := by
 rw [zb, Nat.zero_add, jn (f := untC) (k := 10) (x' := x') zm hi hj hx]
def yiy : List AV := [int 0, int 0, int 0, int 0, int 0, .s (.slice none 0 0), .s (.slice none 0 0), .s (.slice none 0 0)]
theorem zk9 {l : List Int} {g : Unt → Unt} (hg : ∀ u, (g u).id = u.id) (U : List Unt) (id : Int) : yp (setU l g U) id = yp U id := by
 unfold yp setU
 rw [List.findIdx?_map]
 congr 1
 funext u
 simp only [Function.comp]
 split
 ·rw [hg]
 ·rfl
set_option maxHeartbeats 1000000 in
theorem zmo (w : Wld) (hw : w.fits) (hn : ∀ u ∈ w.U, u.pos.ok) (hU : w.U.length ≤ 1000000) (c : Cmd) (hc : c.fits) (hK : c.K = 3) : ACalls Tryz.prog 34 [.agg (wldC w), .agg (cmdC c)] Store.empty (DoQ stE stW w c) := by
 refine ACalls.of_body (c := cfg 97 [6] []) ze Tryz.func34 (by rfl) (by rfl) (by rfl) (by rfl) ?_
 have bad : (¬ mayP w ∨ ¬ cmdP c ∨ w.players < c.P) → DoQ stE stW w c (.tup [.agg (wldC w), int 1]) Store.empty := fun hb => by
  have he := j5 (E := stE) (w := w) (c := c) hb
  exact .inl ⟨by rw [he]; decide, by rw [he]⟩
 refine qz w hw hn _ _ (fun z hz => ?_)
 refine yc ?_
 refine zd (fun c1 => ?_) (fun c1 => ?_)
 rotate_left
 ·exact ret (bad (.inl fun hh => by have := hz.2 hh; rw [this] at c1; cases c1))
 refine yy c hc _ _ (fun zc hzc => ?_)
 refine yc ?_
 refine zd (fun c2 => ?_) (fun c2 => ?_)
 rotate_left
 ·exact ret (bad (.inr (.inl fun hh => by have := hzc.2 hh; rw [this] at c2; cases c2)))
 refine bcd (fun c3 => ?_) (fun c3 => ?_)
 ·exact ret (bad (.inr (.inr (by omega))))
 have hm := hz.1 c1
 have hcp := hzc.1 c2
 have mf := mayF hm
 have he := zam (E := stE) hm hcp (show c.P ≤ w.players by omega)
 have hok := (Cmd.ok3 hK).1 hcp.1
 have hcU := hok.1.2
 refine qc w hw hU _ _ (fun v N hv _ => ?_)
 rw [xr]
 have hv := hv.q
 have hoff := fun (p : Nat) (hp : Fresh N p) => qo hv (xy (fresh_iff.1 hp)).1
 obtain ⟨oa, cap, e, _⟩ := hv.form
 subst e
 refine fun p hp => ?_
 refine yu (i := ti28) (v := .agg (wldV w (.s (.slice oa w.U.length cap)))) (xs := wldV w (.s (.slice oa w.U.length cap))) (b := p) (o := 0) (l := _) rfl rfl rfl (zb _ _ _) (show 0 + 8 ≤ 8 by decide) ?_
 generalize hS : (N.setObj p _).setObj p _ = S
 have hp2 : S.obj p = some (.cells (wldV w (.s (.slice oa w.U.length cap)))) := by rw [← hS]; exact zb _ _ _
 have hr2 : RowsQ 10 untC S (.s (.slice oa w.U.length cap)) w.U := by rw [← hS]; exact (hv.set (hoff p hp) _).set (hoff p hp) _
 have hofp := hoff p hp
 clear hS
 refine bceq (fun h => absurd (hK.symm.trans h) (by decide)) (fun _ => ?_)
 refine bceq (fun h => absurd (hK.symm.trans h) (by decide)) (fun _ => ?_)
 refine bceq (fun _ => ?_) (fun h => absurd hK h)
 refine za (o := S.obj p) _ hp2 ?_
 refine zg6 hr2 hU c (by omega) _ ?_
 have hst : allE (askE w c.P) c.U = stE w c := rfl
 rw [hst]
 refine AWp.loop (σ := Nat × Store) ⟨fun x => [(2, .bx 2 0), (3, .bx 3 0), (4, .bx 4 0), (6, .av (ptr p)), (7, .av (int (stE w c))), (8, .av (int (x.1 : Nat)))], fun _ => [(2, wldC w), (3, cmdC c), (4, yiy)],
  fun x st' => x.1 ≤ c.U.length ∧ (stE w c ≠ 0 → x.1 = 0) ∧ st' = x.2 ∧ x.2.obj p = some (.cells (wldV w (.s (.slice oa w.U.length cap)))) ∧ RowsQ 10 untC x.2 (.s (.slice oa w.U.length cap)) (setU (c.U.take x.1) rstU w.U), fun x => c.U.length - x.1⟩ ze ?_ ?_
 ·refine ⟨(0, S), trivial, ⟨Nat.zero_le _, fun _ => rfl, rfl, hp2, ?_⟩, ⟨lr_ _, lr_ _, lr_ _, lr_ _, lr_ _, lr_ _, trivial⟩, ⟨rfl, rfl, rfl, trivial⟩⟩
  dsimp only
  rw [List.take_zero, zau]
  exact hr2
 rintro ⟨k, S0⟩ S1 ⟨hk, hk0, rfl, hp1, hr1⟩
 dsimp only at hk hk0 hp1 hr1 ⊢
 have fin : k = c.U.length → stE w c = 0 → DoQ stE stW w c (.tup [.agg (wldV (stW w c) (.s (.slice oa w.U.length cap))), int 0]) S1 := fun e h0 => by
  subst e
  rw [List.take_length] at hr1
  exact .inr ⟨he.trans h0, _, hr1, rfl⟩
 by_cases h0 : stE w c = 0
 rotate_left
 ·have hk0 := hk0 h0
  subst hk0
  have out : DoQ stE stW w c (.tup [.agg (wldC w), int (stE w c)]) S1 := .inl ⟨by rw [he]; exact h0, by rw [he]⟩
  refine zd (fun h1 => ?_) (fun h1 => ?_)
  ·refine bceq (fun h2 => absurd h2 h0) (fun _ => ?_)
   refine bcne (fun _ => ?_) (fun h => absurd h h0)
   exact ret out
  ·refine bcne (fun _ => ?_) (fun h => absurd h h0)
   exact ret out
 rw [h0]
 refine zd (fun h1 => ?_) (fun h1 => ?_)
 rotate_left
 ·have hkl : k = c.U.length := y9 h1 hk
  refine za (o := S1.obj p) _ hp1 ?_
  exact ret (fin hkl h0)
 have hlt := yw h1
 obtain ⟨i, hi, hf, hid, hu, how, hin⟩ := qt (ky h0 c.U[k] (List.getElem_mem hlt))
 have hi2 : i < (setU (c.U.take k) rstU w.U).length := by rw [y3]; exact hi
 have hf2 : yp (setU (c.U.take k) rstU w.U) c.U[k] = some i := by rw [zk9 (g := rstU) (fun _ => rfl)]; exact hf
 rcases hr1 with (⟨_, hl0⟩ | ⟨b, cap', J, e, ho, hc1, hc2, hc3⟩) | ⟨_, _, _, hl0⟩
 ·rw [hl0] at hi2; exact absurd hi2 (Nat.not_lt_zero i)
 rotate_left
 ·rw [hl0] at hi2; exact absurd hi2 (Nat.not_lt_zero i)
 simp only [AV.s.injEq, Value.slice.injEq] at e
 obtain ⟨rfl, e7, rfl⟩ := e
 have hcap : 0 < cap := by omega
 have hbp : b ≠ p := hofp b _ _ rfl hcap
 refine ADraw.of_sched ze (by rfl) (by rfl) zz2 (by rfl) ?_
 refine za (o := S1.obj p) _ hp1 ?_
 refine za (o := S1.obj p) _ hp1 ?_
 refine ⟨k, rfl, za _ (zi hlt) ?_⟩
 refine ⟨qh (w := { w with U := setU (c.U.take k) rstU w.U }) (.inl (.inr ⟨b, cap, J, by rw [e7], ho, hc1, hc2, hc3⟩)) (by rw [y3]; exact hU) c.U[k] _ ⟨(by repeat (first | exact trivial | refine ⟨rfl, ?_⟩ | refine ⟨⟨k, rfl, za _ (zi hlt) rfl⟩, ?_⟩ | refine ⟨za (o := S1.obj p) _ hp1 rfl, ?_⟩)), ?_⟩, trivial⟩
 dsimp only
 rw [hf2]
 refine ⟨i, rfl, hi, ?_⟩
 refine ⟨⟨trivial, ?_⟩, trivial⟩
 have hlen : ∀ U2 : List Unt, U2.length = w.U.length → i * 10 + 10 ≤ ((rws untC U2).flatten ++ J).length := fun U2 h => by
  rw [List.length_append, zk zm]
  omega
 have e8 : (setU (c.U.take k) rstU w.U).length = w.U.length := y3 _ _ _
 have hl0 := hlen _ e8
 have hidk : (setU (c.U.take k) rstU w.U).set i (rstU (setU (c.U.take k) rstU w.U)[i]) = setU (c.U.take (k + 1)) rstU w.U := by
  have e5 : c.U.take k ++ [w.U[i].id] = c.U.take (k + 1) := by rw [List.take_succ_eq_append_getElem hlt, hid]
  have e6 : rstU ((setU (c.U.take k) rstU w.U)[i]) = rstU w.U[i] := by
   rw [zb2 hi]
   split <;> rfl
  rw [e6, zed mf.hr hi, e5]
 generalize hgU : setU (c.U.take k) rstU w.U = U1 at *
 refine zq (i := ti3) (v := int (-1)) (b := b) (o := 0 + i * 10 + 5) (l := (rws untC U1).flatten ++ J) rfl rfl rfl ho (show 0 + i * 10 + 5 + 1 ≤ _ by omega) ?_
 have q1 := ziq (x' := { U1[i] with goal := -1 }) (y := int (-1)) (j := 5) ho hi2 (by decide) rfl
 have p1 := (zh (st := S1) (x := .cells (zn ((rws untC U1).flatten ++ J) (0 + i * 10 + 5) [int (-1)])) (Ne.symm hbp)).trans hp1
 generalize S1.setObj b _ = S2 at q1 p1 ⊢
 have hl1 := hlen (U1.set i { U1[i] with goal := -1 }) (by rw [List.length_set]; exact e8)
 refine zq (i := ti3) (v := int (-1)) (b := b) (o := 0 + i * 10 + 6) (l := _) rfl rfl rfl q1 (show 0 + i * 10 + 6 + 1 ≤ _ by omega) ?_
 have q2 := ziq (x' := { U1[i] with goal := -1, next := -1 }) (y := int (-1)) (j := 6) q1 (by rw [List.length_set]; exact hi2) (by decide) (by rw [List.getElem_set_self]; rfl)
 rw [List.set_set] at q2
 have p2 := (zh (st := S2) (x := .cells (zn ((rws untC (U1.set i { U1[i] with goal := -1 })).flatten ++ J) (0 + i * 10 + 6) [int (-1)])) (Ne.symm hbp)).trans p1
 generalize S2.setObj b _ = S3 at q2 p2 ⊢
 have hl2 := hlen (U1.set i { U1[i] with goal := -1, next := -1 }) (by rw [List.length_set]; exact e8)
 refine zq (i := ti3) (v := int 0) (b := b) (o := 0 + i * 10 + 7) (l := _) rfl rfl rfl q2 (show 0 + i * 10 + 7 + 1 ≤ _ by omega) ?_
 have q3 := ziq (x' := { U1[i] with goal := -1, next := -1, stuck := 0 }) (y := int 0) (j := 7) q2 (by rw [List.length_set]; exact hi2) (by decide) (by rw [List.getElem_set_self]; rfl)
 rw [List.set_set] at q3
 have p3 := (zh (st := S3) (x := .cells (zn ((rws untC (U1.set i { U1[i] with goal := -1, next := -1 })).flatten ++ J) (0 + i * 10 + 7) [int 0])) (Ne.symm hbp)).trans p2
 generalize S3.setObj b _ = S4 at q3 p3 ⊢
 have hl3 := hlen (U1.set i { U1[i] with goal := -1, next := -1, stuck := 0 }) (by rw [List.length_set]; exact e8)
 refine zq (i := ti3) (v := int 0) (b := b) (o := 0 + i * 10 + 9) (l := _) rfl rfl rfl q3 (show 0 + i * 10 + 9 + 1 ≤ _ by omega) ?_
 have q4 := ziq (x' := rstU U1[i]) (y := int 0) (j := 9) q3 (by rw [List.length_set]; exact hi2) (by decide) (by rw [List.getElem_set_self]; rfl)
 rw [List.set_set, hidk] at q4
 have p4 := (zh (st := S4) (x := .cells (zn ((rws untC (U1.set i { U1[i] with goal := -1, next := -1, stuck := 0 })).flatten ++ J) (0 + i * 10 + 9) [int 0])) (Ne.symm hbp)).trans p3
 generalize S4.setObj b _ = S5 at q4 p4 ⊢
 refine in64 (by omega) ?_
 have e9 : (setU (c.U.take (k + 1)) rstU w.U).length = w.U.length := y3 _ _ _
 refine ⟨(k + 1, S5), ?_, ⟨by dsimp only; omega, fun h => absurd rfl h, rfl, p4, .inl (.inr ⟨b, cap, J, by rw [e9], q4, by rw [e9, ← e8]; exact hc1, by rw [e9, ← e8]; exact hc2, hc3⟩)⟩, ⟨lr_ _, lr_ _, lr_ _, lr_ _, ?_, lr_ _, trivial⟩, ⟨rfl, rfl, rfl, trivial⟩⟩
 ·show c.U.length - (k + 1) < c.U.length - k
  omega
 ·exact lr_ _
theorem ref3 : zgn 3 stE stW := fun w hw hn hU c hc hK R h => wg (zmo w hw hn hU c hc hK) R h
end Go.Proofs
namespace Go.Proofs
open Go Go.V
theorem zoq {S : Store} {v : AV} {U : List Unt} (hv : RowsQ 10 untC S v U) (hl : U.length ≤ 1000000) (id : Int) (R : AV → Store → Prop) (h : R (ints (inOf U id)) S) : ACalls Tryz.prog 171 [v, int id] S R := by
 obtain ⟨oa, cap, e, hget⟩ := hv.form
 subst e
 refine ACalls.of_body (c := cfg 24) ze Tryz.func171 (by rfl) (by rfl) (by rfl) (by rfl) ?_
 refine AWp.loop (σ := Nat × AV) ⟨fun x => [(1, .av (int id)), (4, .av x.2), (7, .av (.s (.slice oa U.length cap))), (8, .av (int (U.length : Nat))), (9, .av (int (x.1 : Nat)))], fun _ => [],
  fun x st' => x.1 ≤ U.length ∧ App 1 S x.2 (rws intC (inOf (U.take x.1) id)) st', fun x => U.length - x.1⟩ ze ?_ ?_
 ·exact ⟨(0, _), trivial, ⟨Nat.zero_le _, App.start 1 S⟩, ⟨lr_ _, lr_ _, lr_ _, lr_ _, lr_ _, trivial⟩, trivial⟩
 rintro ⟨i, v2⟩ st' ⟨hi, hap⟩
 dsimp only at hi hap ⊢
 refine bcd (fun h1 => ?_) (fun h1 => ?_)
 rotate_left
 ·have : i = U.length := by omega
  subst this
  rw [List.take_length] at hap
  exact ⟨_, _, hap.le, hap.has, h⟩
 have hlt : i < U.length := by omega
 have hs := zfn hlt id
 have hl1 : (inOf (U.take i) id).length ≤ 1000000 := by
  have h1 := zfo (l := U) i id
  have h2 : (inOf U id).length ≤ U.length := by unfold inOf; rw [List.length_map]; exact List.length_filter_le _ _
  omega
 obtain ⟨b, J, e2, hob⟩ := hget i hlt
 have hob : st'.obj b = some (.cells ((rws untC U).flatten ++ J)) := by rw [hap.obj]; exact hob
 subst e2
 refine ⟨i, rfl, hlt, ?_⟩
 refine za (o := st'.obj b) _ hob ?_
 refine z7 (i := ti50) (row := untC U[i]) rfl rfl (zy zm hlt) ?_
 refine bceq (fun c1 => ?_) (fun c1 => ?_)
 ·rw [if_pos c1] at hs
  refine ⟨by decide, ?_⟩
  refine yj (ie := ti3) (rows' := [intC U[i].id]) hap ?_ ?_ ⟨?_, ?_⟩ (fun v3 st3 ha3 => ?_)
  ·rfl
  ·rfl
  ·simp only [zf, List.length_singleton, ti3]; omega
  ·simp only [zf, List.length_singleton]; omega
  refine in64 (by omega) ?_
  refine ⟨(i + 1, v3), ?_, ⟨by dsimp only; omega, ?_⟩, ⟨lr_ _, lr_ _, lr_ _, lr_ _, lr_ _, trivial⟩, trivial⟩
  ·show U.length - (i + 1) < U.length - i
   omega
  ·dsimp only
   rw [hs]
   unfold rws at ha3 ⊢
   rw [List.map_append]
   exact ha3
 ·rw [if_neg c1, List.append_nil] at hs
  refine in64 (by omega) ?_
  refine ⟨(i + 1, v2), ?_, ⟨by dsimp only; omega, ?_⟩, ⟨lr_ _, lr_ _, lr_ _, lr_ _, lr_ _, trivial⟩, trivial⟩
  ·show U.length - (i + 1) < U.length - i
   omega
  ·dsimp only
   rw [hs]
   exact hap
theorem yiw {S : Store} {xw s p : Nat} {w : Wld} {v o0 o1 o2 : AV} {c : Cmd} {fv : AV} (ha : AtW S xw s p w v o0 o1 o2 c fv) (hr : yk w.U) (hU : w.U.length ≤ 1000000) (hc : c.U.length ≤ 1000000) (fn : FuncId) (cap : List AV) (more : Unt → Int)
  (hf : ∀ id, askE w c.P id = 0 → ∀ st', (∀ q, st'.obj q = S.obj q) → ∀ R : AV → Store → Prop, R (int (more (uAt w id))) st' → ACalls Tryz.prog fn ([.agg (untC (uAt w id))] ++ cap) st' R) (E : Int → Int) (hE : ∀ id, E id = if askE w c.P id = 0 then more (uAt w id) else askE w c.P id) (R : AV → Store → Prop)
  (h : allE E c.U = 0 → R (.tup [lst 10 untC (c.U.map (uAt w)), int 0]) S) (h' : allE E c.U ≠ 0 → R (.tup [.s (.slice none 0 0), int (allE E c.U)]) S) : ACalls Tryz.prog 163 [ptr xw, .clos fn cap] S R := by
 refine ACalls.of_body (c := cfg 44) ze Tryz.func163 (by rfl) (by rfl) (by rfl) (by rfl) ?_
 refine za (o := S.obj xw) _ ha.hx ?_
 refine AWp.loop (σ := Nat × AV) ⟨fun x => [(0, .av (ptr xw)), (1, .av (.clos fn cap)), (4, .av x.2), (14, .av (ints c.U)), (15, .av (int (c.U.length : Nat))), (16, .av (int (x.1 : Nat)))], fun _ => [],
  fun x st' => x.1 ≤ c.U.length ∧ App 10 S x.2 (rws untC ((c.U.take x.1).map (uAt w))) st' ∧ ∀ j, (hj : j < c.U.length) → j < x.1 → E c.U[j] = 0, fun x => c.U.length - x.1⟩ ze ?_ ?_
 ·refine ⟨(0, _), trivial, ⟨Nat.zero_le _, App.start 10 S, fun j _ hj => by omega⟩, ⟨lr_ _, lr_ _, lr_ _, lr_ _, ?_, lr_ _, trivial⟩, trivial⟩
  rw [← zf (f := intC) c.U]; exact lr_ _
 rintro ⟨i, v2⟩ st' ⟨hi, hap, hall⟩
 dsimp only at hi hap hall ⊢
 refine bcd (fun h1 => ?_) (fun h1 => ?_)
 rotate_left
 ·have : i = c.U.length := by omega
  subst this
  rw [List.take_length] at hap
  exact ⟨_, _, AV.le_tupL (xs := [v2, int 0]) (ys := [lst 10 untC (c.U.map (uAt w)), int 0]) ⟨AV.le_trans hap.le (ar_ _), ar_ _, trivial⟩, hap.has, h (zar fun j hj => hall j hj hj)⟩
 have hlt : i < c.U.length := by omega
 have hEi := hE c.U[i]
 have ha' : AtW st' xw s p w v o0 o1 o2 c fv := ⟨by rw [hap.obj]; exact ha.hx, by rw [hap.obj]; exact ha.hs, ha.hr.sub fun _ _ _ _ => by rw [hap.obj]⟩
 have bad : E c.U[i] ≠ 0 → R (.tup [.s (.slice none 0 0), int (E c.U[i])]) S := fun hne => by
  have e := qe hlt hall hne
  have := h' (by rw [e]; exact hne)
  rw [e] at this
  exact this
 refine ⟨i, rfl, za _ (zi hlt) ?_⟩
 refine zi7 ha' hr hU c.U[i] _ ?_
 refine bceq (fun c1 => ?_) (fun c1 => ?_)
 rotate_left
 ·rw [if_neg c1] at hEi
  rw [hEi] at bad
  refine bcne (fun c2 => ?_) (fun c2 => absurd c2 c1)
  exact ⟨_, _, ar_ _, hap.has, bad c1⟩
 rw [if_pos c1] at hEi
 refine hf c.U[i] c1 st' (fun q => by rw [hap.obj]) _ ?_
 rw [hEi] at bad
 refine bcne (fun c2 => ?_) (fun c2 => ?_)
 ·exact ⟨_, _, ar_ _, hap.has, bad c2⟩
 rw [c2] at hEi
 refine ⟨by decide, ?_⟩
 refine yj (ie := ti50) (rows' := [untC (uAt w c.U[i])]) hap ?_ ?_ ⟨?_, ?_⟩ (fun v3 st3 ha3 => ?_)
 ·rfl
 ·rfl
 ·simp only [zf, List.length_map, List.length_take, List.length_singleton, ti50]; omega
 ·simp only [zf, List.length_map, List.length_take, List.length_singleton]; omega
 refine in64 (by omega) ?_
 refine ⟨(i + 1, v3), ?_, ⟨by dsimp only; omega, ?_, fun j hj hji => ?_⟩, ⟨lr_ _, lr_ _, lr_ _, lr_ _, lr_ _, lr_ _, trivial⟩, trivial⟩
 ·show c.U.length - (i + 1) < c.U.length - i
  omega
 ·dsimp only
  rw [List.take_succ_eq_append_getElem hlt, List.map_append]
  unfold rws at ha3 ⊢
  rw [List.map_append]
  exact ha3
 ·by_cases e : j = i
  ·subst e; exact hEi
  ·exact hall j hj (by dsimp only at hji; omega)
theorem zd4 {S : Store} {xw s p : Nat} {w : Wld} {v o0 o1 o2 : AV} {c : Cmd} {fv : AV} (ha : AtW S xw s p w v o0 o1 o2 c fv) (hr : yk w.U) (hU : w.U.length ≤ 1000000) (R : AV → Store → Prop) (h : R (.tup [.agg (untC (uAt w c.N)), int (carE w c.P c.N)]) S) : ACalls Tryz.prog 170 [ptr xw] S R := by
 unfold carE at h
 refine ACalls.of_body (c := cfg 27) ze Tryz.func170 (by rfl) (by rfl) (by rfl) (by rfl) ?_
 refine za (o := S.obj xw) _ ha.hx ?_
 refine zi7 ha hr hU c.N _ ?_
 refine bceq (fun c1 => ?_) (fun c1 => ?_)
 ·rw [if_pos c1] at h
  refine qr _ _ _ ?_
  refine bceq (fun c2 => ?_) (fun c2 => ?_)
  ·rw [if_pos c2] at h
   exact ret h
  ·rw [if_neg c2] at h
   rw [← c1] at h
   exact ret h
 ·rw [if_neg c1] at h
  exact ret h
theorem zm1 (x u : Unt) (hx : x.pos.ok) (hu : u.pos.ok) (pb : Nat) (st : Store) (hb : st.obj pb = some (.cells (untC x))) (R : AV → Store → Prop) (h : R (int (wu x u)) st) : ACalls Tryz.prog 172 ([.agg (untC u)] ++ [ptr pb]) st R := by
 unfold wu at h
 refine ACalls.of_body (c := cfg 16) ze Tryz.func172 (by rfl) (by rfl) (by rfl) (by rfl) ?_
 refine qr _ _ _ ?_
 refine bcd (fun c1 => ?_) (fun c1 => ?_)
 ·rw [if_pos c1] at h
  exact ret h
 rw [if_neg c1] at h
 refine za (o := st.obj pb) _ hb ?_
 refine zou u.pos x.pos hu hx _ _ ?_
 refine bcd (fun c2 => ?_) (fun c2 => ?_)
 ·rw [if_pos c2] at h
  exact ret h
 ·rw [if_neg c2] at h
  exact ret h
end Go.Proofs
namespace Go.Proofs
open Go Go.V
/-- A box more. -/
theorem Work.add {F G : Store} {xw s p : Nat} {w : Wld} {v : AV} {L : List Ent} {o0 o1 o2 : AV} {c : Cmd} {fv : AV} (h : Work F G xw s p w v L o0 o1 o2 c fv) {pb : Nat} (hpb : Fresh (F.un (svS G s w v o0 o1 o2 p)) pb) (z : AObj) :
  Work F (G.setObj pb z) xw s p w v L o0 o1 o2 c fv ∧ (F.un (svS G s w v o0 o1 o2 p)).setObj pb z = F.un (svS (G.setObj pb z) s w v o0 o1 o2 p) ∧ offB v pb ∧ pb ≠ s := by
 have hx1 : ¬ F.has pb ∧ ¬ (svS G s w v o0 o1 o2 p).has pb := by
  have := fresh_iff.1 hpb
  exact ⟨fun h => this (un_has.2 (.inl h)), fun h => this (un_has.2 (.inr h))⟩
 have hne : pb ≠ s := fun e => hx1.2 (svS_has.2 (.inl e))
 have hxN : ¬ G.has pb := fun h => hx1.2 (svS_has.2 (.inr h))
 have hxw : pb ≠ xw := fun e => hxN (by rw [e]; exact kw h.hx)
 have off := qo h.S.hu (xy hxN).1
 refine ⟨⟨⟨h.S.hc, fun i h1 h2 => ?_, ?_, h.S.hu.set off _, h.S.h0, h.S.h1, h.S.h2⟩, ?_, h.ox, h.os, h.hL, h.hF⟩, ?_, off, hne⟩
 ·rcases svS_has.1 h2 with rfl | h2
  ·exact h.S.hd _ h1 (svS_has.2 (.inl rfl))
  ·by_cases hi : i = pb
   ·subst hi; exact hx1.1 h1
   ·refine h.S.hd _ h1 (svS_has.2 (.inr ?_))
    rcases h2 with h2 | h2
    ·rw [zh hi] at h2; exact .inl h2
    ·exact .inr h2
 ·rw [zh (Ne.symm hne)]; exact h.S.hs
 ·rw [zh (Ne.symm hxw)]; exact h.hx
 ·rw [zw]
  unfold svS
  rw [ko hne]
theorem yik {w : Wld} {c : Cmd} (h : carE w c.P c.N ≠ 0) : ldE w c = carE w c.P c.N := by unfold ldE; rw [if_neg h]
theorem zqd {w : Wld} {c : Cmd} (h : carE w c.P c.N = 0) (h2 : allE (ldA w c.P c.N) c.U ≠ 0) : ldE w c = allE (ldA w c.P c.N) c.U := by unfold ldE; rw [if_pos h, if_neg h2]
theorem yij {w : Wld} {c : Cmd} (h : carE w c.P c.N = 0) (h2 : allE (ldA w c.P c.N) c.U = 0) : ldE w c = if va (uAt w c.N).kind < ((inOf w.U c.N).length : Int) + (c.U.length : Int) then 4 else 0 := by unfold ldE; rw [if_pos h, if_pos h2]
set_option maxHeartbeats 2000000 in
set_option maxRecDepth 20000 in
theorem zo7 {F G : Store} {xw s p : Nat} {w : Wld} {v : AV} {L : List Ent} {o0 o1 o2 : AV} {c : Cmd} {fv : AV} (hW : Work F G xw s p w v L o0 o1 o2 c fv) (hmp : mayP w) (hn : ∀ u ∈ w.U, u.pos.ok) (hc : c.U.length ≤ 64) (hN : 1 ≤ c.N) (R : AV → Store → Prop)
  (h : ∀ S', ldE w c ≠ 0 → R (int (ldE w c)) S') (h0 : ldE w c = 0 → ∀ S', Done S' xw s c fv (ldW w c) → R (int 0) S') : ACalls Tryz.prog 123 [ptr xw] (F.un (svS G s w v o0 o1 o2 p)) R := by
 have hm := mayF hmp
 have hU := hm.hU
 have hLl := hW.hL
 obtain ⟨oa, cap, e, hget⟩ := hW.S.hu.form
 subst e
 refine ACalls.of_body (c := cfg 65 [3] []) ze Tryz.func123 (by rfl) (by rfl) (by rfl) (by rfl) ?_
 refine zd4 ⟨hW.x, hW.s, hW.r⟩ hm.hr (by omega) _ ?_
 intro pb hpb
 refine yu (i := ti50) (v := .agg (untC (uAt w c.N))) (xs := untC (uAt w c.N)) (b := pb) (o := 0) (l := _) rfl rfl rfl (zb _ _ _) (show 0 + 10 ≤ 10 by decide) ?_
 obtain ⟨hW1, e1, off1, hps⟩ := hW.add hpb (.cells (untC (uAt w c.N)))
 have e3 : ∀ l : List AV, l.length = 10 → zn l 0 (untC (uAt w c.N)) = untC (uAt w c.N) := fun l hl => by
  unfold zn
  rw [List.take_zero, List.nil_append, Nat.zero_add, zm, List.drop_of_length_le (by omega), List.append_nil]
 rw [zl, e3 _ (by simp [ti50]), e1]
 have hx := hW1.x (F' := F) (q0 := o0) (q1 := o1) (q2 := o2)
 have hs := hW1.s (F' := F) (q0 := o0) (q1 := o1) (q2 := o2)
 have hr := hW1.r (F' := F) (q0 := o0) (q1 := o1) (q2 := o2)
 have hgb : (G.setObj pb (.cells (untC (uAt w c.N)))).obj pb = some (.cells (untC (uAt w c.N))) := zb _ _ _
 generalize G.setObj pb (.cells (untC (uAt w c.N))) = G0 at *
 have hb : (F.un (svS G0 s w (.s (.slice oa w.U.length cap)) o0 o1 o2 p)).obj pb = some (.cells (untC (uAt w c.N))) := un_r (by
  show (G0.setObj s _).obj pb = _
  rw [zh hps]; exact hgb)
 refine bcne (fun c1 => ?_) (fun c1 => ?_)
 ·have := yik c1
  rw [this] at h
  exact ret (h _ c1)
 obtain ⟨hask, hroom⟩ := zco c1
 obtain ⟨ix, hix, hfx, hidx, hux, _, _⟩ := qt hask
 have hrm := zth hmp hix (by omega)
 rw [hidx] at hrm
 rw [hux] at hroom hb
 have hkb := zc4 w.U[ix].kind
 have hin : (inOf w.U c.N).length ≤ w.U.length := by unfold inOf; rw [List.length_map]; exact List.length_filter_le _ _
 rw [hux]
 refine ADraw.of_sched ze (by rfl) (by rfl) ya5 (by rfl) ?_
 refine za (o := (F.un (svS G0 s w _ o0 o1 o2 p)).obj pb) _ hb ?_
 refine za (o := (F.un (svS G0 s w _ o0 o1 o2 p)).obj xw) _ hx ?_
 refine za (o := (F.un (svS G0 s w _ o0 o1 o2 p)).obj s) _ hs ?_
 refine za (o := (F.un (svS G0 s w _ o0 o1 o2 p)).obj pb) _ hb ?_
 refine ⟨qr _ _ _ ⟨(by repeat (first | exact trivial | refine ⟨rfl, ?_⟩ | refine ⟨za (o := (F.un (svS G0 s w _ o0 o1 o2 p)).obj pb) _ hb rfl, ?_⟩ | refine ⟨za (o := (F.un (svS G0 s w _ o0 o1 o2 p)).obj xw) _ hx rfl, ?_⟩ | refine ⟨za (o := (F.un (svS G0 s w _ o0 o1 o2 p)).obj s) _ hs rfl, ?_⟩)), ?_⟩, trivial⟩
 rw [hidx]
 refine ⟨zoq hr (by omega) c.N _ ⟨(by repeat (first | exact trivial | refine ⟨rfl, ?_⟩ | refine ⟨optR (optR (optR (za _ (zb _ _ _) rfl))), ?_⟩)), ?_⟩, trivial⟩
 refine in64 (by rw [zf]; omega) ?_
 refine ⟨⟨trivial, ?_⟩, trivial⟩
 rw [zf]
 refine yiw ⟨hx, hs, hr⟩ hm.hr (by omega) (by omega) _ _ (wu w.U[ix]) (fun id hid st' ho R h => zm1 w.U[ix] (uAt w id) (hn _ (List.getElem_mem hix)) (ycy hn id) pb st' (by rw [ho]; exact hb) R h) (ldA w c.P c.N) (fun id => by unfold ldA; rw [hux]) _ (fun he => ?_) (fun he => ?_)
 rotate_left
 ·have e5 := zqd c1 he
  refine bcd (fun h1 => absurd h1 (by omega)) (fun _ => ?_)
  refine AWp.loop (σ := Unit) ⟨fun x => [(4, .av (int (ldE w c))), (45, .av (int 0)), (46, .av (int 0))], fun _ => [], fun x st' => True, fun x => 0⟩ ze ?_ ?_
  ·refine ⟨(), trivial, trivial, ⟨?_, lr_ _, lr_ _, trivial⟩, trivial⟩
   rw [e5]; exact lr_ _
  rintro ⟨⟩ st' _
  exact ret (h _ (by rw [e5]; exact he))
 have hzero := ky he
 have e5 := yij c1 he
 rw [hux] at e5
 refine bcd (fun h1 => ?_) (fun h1 => ?_)
 ·rw [zf, List.length_map] at h1
  rw [if_pos (by omega)] at e5
  rw [e5] at h
  exact ret (h _ (by decide))
 rw [zf, List.length_map] at h1
 rw [if_neg (by omega)] at e5
 refine AWp.loop (σ := Nat × Store × Store × List Ent) ⟨fun x => [(0, .av (ptr xw)), (3, .av (ptr pb)), (4, .av (int 0)), (44, .av (lst 10 untC (c.U.map (uAt w)))), (45, .av (int (c.U.length : Nat))), (46, .av (int (x.1 : Nat)))], fun _ => [],
  fun x st' => x.1 ≤ c.U.length ∧ st' = x.2.1.un (svS x.2.2.1 s { w with U := setU (c.U.take x.1) (ldU c.N) w.U } (.s (.slice oa w.U.length cap)) o0 o1 o2 p) ∧ StandR x.2.1 x.2.2.1 s p { w with U := setU (c.U.take x.1) (ldU c.N) w.U } (.s (.slice oa w.U.length cap)) x.2.2.2 o0 o1 o2 ∧ (∀ q, offB (.s (.slice oa w.U.length cap)) q → x.2.2.1.obj q = G0.obj q) ∧ x.2.2.2.length ≤ L.length + x.1 ∧ ∀ e ∈ x.2.2.2, e.2.ok, fun x => c.U.length - x.1⟩ ze ?_ ?_
 ·refine ⟨(0, F, G0, L), trivial, ⟨Nat.zero_le _, ?_, ?_, fun _ _ => rfl, by dsimp only; omega, kj hW.hF hn⟩, ⟨lr_ _, lr_ _, lr_ _, lr_ _, ?_, lr_ _, trivial⟩, trivial⟩
  ·dsimp only
   rw [List.take_zero, zau]
  ·dsimp only
   rw [List.take_zero, zau]
   exact hW1.S
  ·have e : (c.U.length : Int) = ((rws untC (c.U.map (uAt w))).length : Int) := by rw [zf, List.length_map]
   rw [e]; exact lr_ _
 rintro ⟨k, F1, G1, L1⟩ st' ⟨hk, rfl, hS, hG, hL, hok⟩
 dsimp only at hk hS hG hL hok ⊢
 have hx2 : (F1.un (svS G1 s { w with U := setU (c.U.take k) (ldU c.N) w.U } (.s (.slice oa w.U.length cap)) o0 o1 o2 p)).obj xw = some (.cells (wkC s c fv)) := un_r (by
  show (G1.setObj s _).obj xw = _
  rw [zh hW1.ne, hG xw hW1.ox]
  exact hW1.hx)
 have hb2 : (F1.un (svS G1 s { w with U := setU (c.U.take k) (ldU c.N) w.U } (.s (.slice oa w.U.length cap)) o0 o1 o2 p)).obj pb = some (.cells (untC w.U[ix])) := un_r (by
  show (G1.setObj s _).obj pb = _
  rw [zh hps, hG pb off1, hgb, hux])
 refine bcd (fun h1 => ?_) (fun h1 => ?_)
 rotate_left
 ·have : k = c.U.length := by omega
  subst this
  rw [List.take_length] at hS hx2 ⊢
  exact ret (h0 e5 _ ⟨_, o0, o1, o2, p, hx2, un_r (xl _ _ _ _ _ _ _ _), (vz hS.hs hS.hu).un⟩)
 have hlt : k < c.U.length := by omega
 obtain ⟨i, hi, hf, hid, hu, how, hin⟩ := qt (zon (hzero c.U[k] (List.getElem_mem hlt))).1
 have hlm : k < (c.U.map (uAt w)).length := by rw [List.length_map]; exact hlt
 refine ⟨k, rfl, za _ (zi hlm) ?_⟩
 have hgm : (c.U.map (uAt w))[k] = w.U[i] := by rw [List.getElem_map, hu]
 rw [hgm]
 refine zfb w.U[i] _ _ ?_
 refine za (o := (F1.un (svS G1 s _ _ o0 o1 o2 p)).obj pb) _ hb2 ?_
 refine ADraw.of_sched ze (by rfl) (by rfl) zr3 (by rfl) ?_
 refine za (o := (F1.un (svS G1 s _ _ o0 o1 o2 p)).obj xw) _ hx2 ?_
 have hi2 : i < (setU (c.U.take k) (ldU c.N) w.U).length := by rw [y3]; exact hi
 refine ⟨zef hS hW1.os (zgz (g := ldU c.N) (fun _ => rfl) hm.hr) (by rw [y3]; omega) (by omega) hok hi2 (ldU w.U[ix].id w.U[i]) (zh7 (g := ldU c.N) (fun _ => rfl) hi) (show Vc.ok (0, 0) by unfold Vc.ok yn; decide) _ (fun F2 G2 L2 g1 g2 g3 g4 => ⟨trivial, ?_⟩), trivial⟩
 have e6 : c.U.take k ++ [w.U[i].id] = c.U.take (k + 1) := by rw [List.take_succ_eq_append_getElem hlt, hid]
 dsimp only at g1 ⊢
 rw [hidx, zed hm.hr hi, e6] at g1 ⊢
 refine in64 (by omega) ?_
 refine ⟨(k + 1, F2, G2, L2), ?_, ⟨by dsimp only; omega, rfl, g1, fun q hq => (g2 q hq).trans (hG q hq), by dsimp only; omega, g4⟩, ⟨lr_ _, lr_ _, lr_ _, lr_ _, lr_ _, lr_ _, trivial⟩, trivial⟩
 show c.U.length - (k + 1) < c.U.length - k
 omega
theorem yi6 : vk 6 ldE ldW := by
 intro F G xw s p w v L o0 o1 o2 c hW hm hn hc hp hk R h h0
 have hx := hW.x (F' := F) (q0 := o0) (q1 := o1) (q2 := o2)
 have hok := (Cmd.ok6 hk).1 hc.1
 refine ACalls.of_body (c := cfg 34) ze Tryz.func79 (by rfl) (by rfl) (by rfl) (by rfl) ?_
 refine za (o := (F.un (svS G s w v o0 o1 o2 p)).obj xw) _ hx ?_
 refine bceq (fun c1 => absurd (hk.symm.trans c1) (by decide)) (fun _ => ?_)
 refine bceq (fun c1 => absurd (hk.symm.trans c1) (by decide)) (fun _ => ?_)
 refine bceq (fun c1 => absurd (hk.symm.trans c1) (by decide)) (fun _ => ?_)
 refine bceq (fun c1 => absurd (hk.symm.trans c1) (by decide)) (fun _ => ?_)
 refine bceq (fun c1 => absurd (hk.symm.trans c1) (by decide)) (fun _ => ?_)
 refine bceq (fun _ => ?_) (fun c1 => absurd hk c1)
 refine zo7 hW hm hn hok.1.1.2 hok.2.1 _ (fun S' he => ret (h S' he)) (fun he S' hd => ret (h0 he S' hd))
end Go.Proofs
namespace Go.Proofs
open Go Go.V
theorem zek {U : List Unt} {J : List AV} {i j : Nat} (hi : i < U.length) (hj : j < 10) {y : AV} (hy : (untC U[i])[j]? = some y) : (((rws untC U).flatten ++ J).drop (0 + i * 10 + j)).head? = some y := by
 have hd := zy (f := untC) (L := J) zm hi
 rw [← List.drop_drop, hd, List.head?_drop, List.getElem?_append_left (by rw [zm]; exact hj)]
 exact hy
theorem zb7 {S : Store} {w : Wld} {v : AV} (hv : RowsQ 10 untC S v w.U) (hU : w.U.length ≤ 1000000) (id : Int) (R : AV → Store → Prop) (h : R (ints (inOf w.U id)) S) : ACalls Tryz.prog 41 [.agg (wldV w v), int id] S R := by
 obtain ⟨oa, cap, e, hget⟩ := hv.form
 subst e
 refine ACalls.of_body (c := cfg 32) ze Tryz.func41 (by rfl) (by rfl) (by rfl) (by rfl) ?_
 refine AWp.loop (σ := Nat × AV) ⟨fun x => [(1, .av (int id)), (2, .bx 2 0), (5, .av x.2), (6, .av (int (x.1 : Nat)))], fun _ => [(2, wldV w (.s (.slice oa w.U.length cap)))],
  fun x st' => x.1 ≤ w.U.length ∧ App 1 S x.2 (rws intC (inOf (w.U.take x.1) id)) st', fun x => w.U.length - x.1⟩ ze ?_ ?_
 ·exact ⟨(0, _), trivial, ⟨Nat.zero_le _, App.start 1 S⟩, ⟨lr_ _, lr_ _, lr_ _, lr_ _, trivial⟩, ⟨rfl, trivial⟩⟩
 rintro ⟨i, v2⟩ st' ⟨hi, ha⟩
 dsimp only at hi ha ⊢
 refine bcd (fun h1 => ?_) (fun h1 => ?_)
 rotate_left
 ·have : i = w.U.length := by omega
  subst this
  rw [List.take_length] at ha
  exact ⟨_, _, ha.le, ha.has, h⟩
 have hlt : i < w.U.length := by omega
 have hs := zfn hlt id
 have hl1 : (inOf (w.U.take i) id).length ≤ 1000000 := by
  have h1 := zfo (l := w.U) i id
  have h2 : (inOf w.U id).length ≤ w.U.length := by unfold inOf; rw [List.length_map]; exact List.length_filter_le _ _
  omega
 obtain ⟨b, J, e2, hob⟩ := hget i hlt
 have hob : st'.obj b = some (.cells ((rws untC w.U).flatten ++ J)) := by rw [ha.obj]; exact hob
 subst e2
 refine ⟨i, rfl, hlt, ?_⟩
 refine za (o := st'.obj b) _ hob ?_
 refine za (o := List.head? _) (int w.U[i].inn) (zek (j := 8) hlt (by decide) rfl) ?_
 refine bceq (fun c1 => ?_) (fun c1 => ?_)
 ·rw [if_pos c1] at hs
  refine ⟨i, rfl, hlt, ?_⟩
  refine za (o := st'.obj b) _ hob ?_
  refine za (o := List.head? _) (int w.U[i].id) (zek (j := 0) hlt (by decide) rfl) ?_
  refine ⟨by decide, ?_⟩
  refine yj (ie := ti3) (rows' := [intC w.U[i].id]) ha ?_ ?_ ⟨?_, ?_⟩ (fun v3 st3 ha3 => ?_)
  ·rfl
  ·rfl
  ·simp only [zf, List.length_singleton, ti3]; omega
  ·simp only [zf, List.length_singleton]; omega
  refine in64 (by omega) ?_
  refine ⟨(i + 1, v3), ?_, ⟨by dsimp only; omega, ?_⟩, ⟨lr_ _, lr_ _, lr_ _, lr_ _, trivial⟩, ⟨rfl, trivial⟩⟩
  ·show w.U.length - (i + 1) < w.U.length - i
   omega
  ·dsimp only
   rw [hs]
   unfold rws at ha3 ⊢
   rw [List.map_append]
   exact ha3
 ·rw [if_neg c1, List.append_nil] at hs
  refine in64 (by omega) ?_
  refine ⟨(i + 1, v2), ?_, ⟨by dsimp only; omega, ?_⟩, ⟨lr_ _, lr_ _, lr_ _, lr_ _, trivial⟩, ⟨rfl, trivial⟩⟩
  ·show w.U.length - (i + 1) < w.U.length - i
   omega
  ·dsimp only
   rw [hs]
   exact ha
theorem zka {S : Store} {w : Wld} {v : AV} (hv : RowsQ 10 untC S v w.U) (hU : w.U.length ≤ 1000000) (P id : Int) (R : AV → Store → Prop) (h : R (int (askE w P id)) S) : ACalls Tryz.prog 86 [.agg (wldV w v), int P, int id] S R :=
 ACalls.read (ys := [.agg (wldC w), int P, int id]) (Q := fun r => r = int (askE w P id)) (fun Oth M W vs sto hr => by
  obtain ⟨hl, h2⟩ := hr
  match vs, hl with
  | [a, b, c], _ => exact Reads.cons (xt hv sto (h2 0 _ a rfl rfl)) (Reads.cons (zo (h2 1 _ b rfl rfl)) (Reads.cons (zo (h2 2 _ c rfl rfl)) Reads.nil))) (zbm w hU P id _ _ rfl) (fun r hr => hr ▸ zhh _) (fun r hr => hr ▸ h)
theorem zia (w : Wld) (hU : w.U.length ≤ 1000000) (hk : ∀ u ∈ w.U, k9 u.kind) (c : Cmd) (st : Store) (R : AV → Store → Prop) (h : R (int (carE w c.P c.N)) st) : ACalls Tryz.prog 91 [.agg (wldC w), .agg (cmdC c)] st R := by
 unfold carE at h
 refine ACalls.of_body (c := cfg 29) ze Tryz.func91 (by rfl) (by rfl) (by rfl) (by rfl) ?_
 refine zbm w hU c.P c.N _ _ ?_
 refine ADraw.of_sched ze (by rfl) (by rfl) yf0 (by rfl) ?_
 refine bceq (fun c1 => ?_) (fun c1 => ?_)
 rotate_left
 ·rw [if_neg c1] at h
  refine ⟨⟨(by repeat (first | exact trivial | refine ⟨rfl, ?_⟩ | refine ⟨optR (optR (optR (za _ (zb _ _ _) rfl))), ?_⟩)), ?_⟩, trivial⟩
  refine ⟨⟨(by repeat (first | exact trivial | refine ⟨rfl, ?_⟩ | refine ⟨optR (optR (optR (za _ (zb _ _ _) rfl))), ?_⟩)), ?_⟩, trivial⟩
  exact ret h
 rw [if_pos c1] at h
 obtain ⟨i, hi, hf, hid, hu, _, _⟩ := qt c1
 rw [hu] at h
 refine ⟨zbl w hU c.N _ _ ⟨(by repeat (first | exact trivial | refine ⟨rfl, ?_⟩ | refine ⟨optR (optR (optR (za _ (zb _ _ _) rfl))), ?_⟩)), ?_⟩, trivial⟩
 rw [hf]
 refine ⟨i, rfl, za _ (zi hi) ?_⟩
 refine ⟨qn w.U[i].kind (hk _ (List.getElem_mem hi)) _ _ ⟨(by repeat (first | exact trivial | refine ⟨rfl, ?_⟩ | refine ⟨optR (optR (optR (za _ (zb _ _ _) rfl))), ?_⟩)), ?_⟩, trivial⟩
 refine bceq (fun c2 => ?_) (fun c2 => ?_)
 ·rw [if_pos c2] at h
  exact ret h
 ·rw [if_neg c2] at h
  rw [← c1] at h
  exact ret h
theorem za8 {S : Store} {w : Wld} {v : AV} (hv : RowsQ 10 untC S v w.U) (hU : w.U.length ≤ 1000000) (hk : ∀ u ∈ w.U, k9 u.kind) (c : Cmd) (R : AV → Store → Prop) (h : R (int (carE w c.P c.N)) S) : ACalls Tryz.prog 91 [.agg (wldV w v), .agg (cmdC c)] S R :=
 ACalls.read (ys := [.agg (wldC w), .agg (cmdC c)]) (Q := fun r => r = int (carE w c.P c.N)) (fun Oth M W vs sto hr => by
  obtain ⟨x, y, rfl, h1, h2⟩ := zca hr
  exact Reads.cons (xt hv sto h1) (Reads.cons (zo h2) Reads.nil)) (zia w hU hk c _ _ rfl) (fun r hr => hr ▸ zhh _) (fun r hr => hr ▸ h)
theorem xj {S : Store} {b i j : Nat} {U : List Unt} {J : List AV} {x' : Unt} {ys : List AV} (ho : S.obj b = some (.cells ((rws untC U).flatten ++ J))) (hi : i < U.length) (hj : j + ys.length ≤ 10) (hx : untC x' = zn (untC U[i]) j ys) : (S.setObj b (.cells (zn ((rws untC U).flatten ++ J) (0 + i * 10 + j) ys))).obj b = some (.cells ((rws untC (U.set i x')).flatten ++ J)) := by
 rw [zb, Nat.zero_add, jn (f := untC) (k := 10) (x' := x') zm hi hj hx]
set_option maxHeartbeats 2000000 in
set_option maxRecDepth 20000 in
theorem zpq {S : Store} {p : Nat} {w : Wld} {v : AV} (hp : S.obj p = some (.cells (wldV w v))) (hv : RowsQ 10 untC S v w.U) (hoff : offB v p) (hmp : mayP w) (hn : ∀ u ∈ w.U, u.pos.ok) (c : Cmd) (hcU : c.U.length ≤ 64) (hN : 1 ≤ c.N) (R : AV → Store → Prop)
  (h : ∀ S', ldE w c ≠ 0 → R (int (ldE w c)) S') (h0 : ldE w c = 0 → ∀ S' v', S'.obj p = some (.cells (wldV (ldW w c) v')) → RowsQ 10 untC S' v' (ldW w c).U → R (int 0) S') : ACalls Tryz.prog 57 [ptr p, .agg (cmdC c)] S R := by
 have hm := mayF hmp
 have hU := hm.hU
 obtain ⟨oa, cap, e, hget⟩ := hv.form
 subst e
 refine ACalls.of_awp (c := cfg 135) ze Tryz.func57 (by rfl) (by rfl) (by rfl) (by rfl) ?_
 refine AWp.seq (AWp.of_vc ze ?_)
 refine AWp.seq (AWp.of_vc ze ?_)
 refine ADraw.of_sched ze (by rfl) (by rfl) ygh (by rfl) ?_
 refine za (o := S.obj p) _ hp ?_
 refine ⟨za8 hv (by omega) hm.hk c _ ⟨(by repeat (first | exact trivial | refine ⟨rfl, ?_⟩ | refine ⟨za (o := S.obj p) _ hp rfl, ?_⟩)), ?_⟩, trivial⟩
 refine ⟨⟨trivial, ?_⟩, trivial⟩
 refine AWp.seq (AWp.of_vc ze ?_)
 refine bcne (fun c1 => ?_) (fun c1 => ?_)
 ·have := yik c1
  rw [this] at h
  exact ret (h _ c1)
 obtain ⟨hask, hroom⟩ := zco c1
 obtain ⟨ix, hix, hfx, hidx, hux, _, _⟩ := qt hask
 rw [hux] at hroom
 have hkb := zc4 w.U[ix].kind
 have hin : (inOf w.U c.N).length ≤ w.U.length := by unfold inOf; rw [List.length_map]; exact List.length_filter_le _ _
 refine AWp.meetA (σ := Unit) ⟨fun _ => [(0, .av (ptr p)), (3, .bx 3 0), (6, .bx 6 0)], fun _ => [(3, cmdC c), (6, untC w.U[ix])], fun _ st' => st' = S⟩ ?_ ?_
 ·refine AWp.of_vc ze ?_
  refine ADraw.of_sched ze (by rfl) (by rfl) ygg (by rfl) ?_
  refine za (o := S.obj p) _ hp ?_
  refine za (o := S.obj p) _ hp ?_
  obtain ⟨b, J, e2, hob⟩ := hget ix hix
  subst e2
  refine ⟨qh hv (by omega) c.N _ ⟨(by repeat (first | exact trivial | refine ⟨rfl, ?_⟩ | refine ⟨za (o := S.obj p) _ hp rfl, ?_⟩ | refine ⟨⟨ix, rfl, hix, rfl⟩, ?_⟩ | refine ⟨za (o := S.obj b) _ hob (z7 (i := ti50) (row := untC w.U[ix]) rfl rfl (zy zm hix) rfl), ?_⟩)), ?_⟩, ⟨(by repeat (first | exact trivial | refine ⟨rfl, ?_⟩ | refine ⟨za (o := S.obj p) _ hp rfl, ?_⟩ | refine ⟨⟨ix, rfl, hix, rfl⟩, ?_⟩ | refine ⟨za (o := S.obj b) _ hob (z7 (i := ti50) (row := untC w.U[ix]) rfl rfl (zy zm hix) rfl), ?_⟩)), ?_⟩, trivial⟩
  ·rw [hfx]
   refine ⟨ix, rfl, hix, ?_⟩
   refine za (o := S.obj b) _ hob ?_
   refine z7 (i := ti50) (row := untC w.U[ix]) rfl rfl (zy zm hix) ?_
   refine ⟨⟨(by repeat (first | exact trivial | refine ⟨rfl, ?_⟩ | refine ⟨za (o := S.obj p) _ hp rfl, ?_⟩ | refine ⟨⟨ix, rfl, hix, rfl⟩, ?_⟩ | refine ⟨za (o := S.obj b) _ hob (z7 (i := ti50) (row := untC w.U[ix]) rfl rfl (zy zm hix) rfl), ?_⟩)), ?_⟩, trivial⟩
   refine ⟨⟨trivial, ?_⟩, trivial⟩
   exact ⟨(), rfl, ⟨lr_ _, lr_ _, lr_ _, trivial⟩, ⟨rfl, rfl, trivial⟩⟩
  ·refine ⟨qh hv (by omega) c.N _ ⟨(by repeat (first | exact trivial | refine ⟨rfl, ?_⟩ | refine ⟨za (o := S.obj p) _ hp rfl, ?_⟩ | refine ⟨⟨ix, rfl, hix, rfl⟩, ?_⟩ | refine ⟨za (o := S.obj b) _ hob (z7 (i := ti50) (row := untC w.U[ix]) rfl rfl (zy zm hix) rfl), ?_⟩)), ?_⟩, trivial⟩
   rw [hfx]
   refine ⟨ix, rfl, hix, ?_⟩
   refine za (o := S.obj b) _ hob ?_
   refine z7 (i := ti50) (row := untC w.U[ix]) rfl rfl (zy zm hix) ?_
   refine ⟨⟨trivial, ?_⟩, trivial⟩
   exact ⟨(), rfl, ⟨lr_ _, lr_ _, lr_ _, trivial⟩, ⟨rfl, rfl, trivial⟩⟩
 rintro _ S rfl
 refine AWp.of_vc ze ?_
 refine AWp.loop (σ := Nat) ⟨fun i => [(0, .av (ptr p)), (3, .bx 3 0), (6, .bx 6 0), (7, .av (int (i : Nat)))], fun _ => [(3, cmdC c), (6, untC w.U[ix])],
  fun i st' => i ≤ c.U.length ∧ st' = S ∧ ∀ j, (hj : j < c.U.length) → j < i → ldA w c.P c.N c.U[j] = 0, fun i => c.U.length - i⟩ ze ?_ ?_
 ·exact ⟨0, trivial, ⟨Nat.zero_le _, rfl, fun j _ hj => by omega⟩, ⟨lr_ _, lr_ _, lr_ _, lr_ _, trivial⟩, ⟨rfl, rfl, trivial⟩⟩
 rintro i S ⟨hi, rfl, hall⟩
 refine zd (fun h1 => ?_) (fun h1 => ?_)
 ·have hlt := yw h1
  refine ADraw.of_sched ze (by rfl) (by rfl) ygf (by rfl) ?_
  refine za (o := S.obj p) _ hp ?_
  refine ⟨i, rfl, za _ (zi hlt) ?_⟩
  refine ⟨zka hv (by omega) c.P c.U[i] _ ⟨(by repeat (first | exact trivial | refine ⟨rfl, ?_⟩ | refine ⟨za (o := S.obj p) _ hp rfl, ?_⟩ | refine ⟨⟨i, rfl, za _ (zi hlt) rfl⟩, ?_⟩)), ?_⟩, trivial⟩
  refine ⟨⟨trivial, ?_⟩, trivial⟩
  refine bcne (fun c2 => ?_) (fun c2 => ?_)
  ·have hA : ldA w c.P c.N c.U[i] = askE w c.P c.U[i] := by unfold ldA; rw [if_neg c2]
   have e5 := zqd c1 (by rw [qe hlt hall (by rw [hA]; exact c2), hA]; exact c2)
   rw [qe hlt hall (by rw [hA]; exact c2), hA] at e5
   rw [e5] at h
   exact ret (h _ c2)
  obtain ⟨iu, hiu, hfu, hidu, huu, _, _⟩ := qt c2
  have hA : ldA w c.P c.N c.U[i] = wu w.U[ix] w.U[iu] := by unfold ldA; rw [if_pos c2, hux, huu]
  obtain ⟨b, J, e2, hob⟩ := hget iu hiu
  subst e2
  refine ADraw.of_sched ze (by rfl) (by rfl) zzw (by rfl) ?_
  refine za (o := S.obj p) _ hp ?_
  refine za (o := S.obj p) _ hp ?_
  refine ⟨i, rfl, za _ (zi hlt) ?_⟩
  refine ⟨qh hv (by omega) c.U[i] _ ⟨(by repeat (first | exact trivial | refine ⟨rfl, ?_⟩ | refine ⟨za (o := S.obj p) _ hp rfl, ?_⟩ | refine ⟨⟨i, rfl, za _ (zi hlt) rfl⟩, ?_⟩ | refine ⟨⟨iu, rfl, hiu, rfl⟩, ?_⟩ | refine ⟨za (o := S.obj b) _ hob (z7 (i := ti50) (row := untC w.U[iu]) rfl rfl (zy zm hiu) rfl), ?_⟩ | refine ⟨in64 (by rw [zf]; omega) rfl, ?_⟩)), ?_⟩, ⟨(by repeat (first | exact trivial | refine ⟨rfl, ?_⟩ | refine ⟨za (o := S.obj p) _ hp rfl, ?_⟩ | refine ⟨⟨i, rfl, za _ (zi hlt) rfl⟩, ?_⟩ | refine ⟨⟨iu, rfl, hiu, rfl⟩, ?_⟩ | refine ⟨za (o := S.obj b) _ hob (z7 (i := ti50) (row := untC w.U[iu]) rfl rfl (zy zm hiu) rfl), ?_⟩ | refine ⟨in64 (by rw [zf]; omega) rfl, ?_⟩)), ?_⟩, trivial⟩
  ·rw [hfu]
   refine ⟨iu, rfl, hiu, ?_⟩
   refine za (o := S.obj b) _ hob ?_
   refine z7 (i := ti50) (row := untC w.U[iu]) rfl rfl (zy zm hiu) ?_
   refine ⟨⟨(by repeat (first | exact trivial | refine ⟨rfl, ?_⟩ | refine ⟨za (o := S.obj p) _ hp rfl, ?_⟩ | refine ⟨⟨i, rfl, za _ (zi hlt) rfl⟩, ?_⟩ | refine ⟨⟨iu, rfl, hiu, rfl⟩, ?_⟩ | refine ⟨za (o := S.obj b) _ hob (z7 (i := ti50) (row := untC w.U[iu]) rfl rfl (zy zm hiu) rfl), ?_⟩ | refine ⟨in64 (by rw [zf]; omega) rfl, ?_⟩)), ?_⟩, trivial⟩
   refine ⟨⟨trivial, ?_⟩, trivial⟩
   refine qn w.U[iu].kind (hm.hk _ (List.getElem_mem hiu)) _ _ ?_
   refine bcd (fun c3 => ?_) (fun c3 => ?_)
   ·have hmo : wu w.U[ix] w.U[iu] = 7 := by unfold wu; rw [if_pos c3]
    rw [hmo] at hA
    have e5 := zqd c1 (by rw [qe hlt hall (by rw [hA]; decide), hA]; decide)
    rw [qe hlt hall (by rw [hA]; decide), hA] at e5
    rw [e5] at h
    exact ret (h _ (by decide))
   refine zfa w.U[iu].pos w.U[ix].pos (hn _ (List.getElem_mem hiu)) (hn _ (List.getElem_mem hix)) _ _ ?_
   refine bcd (fun c4 => ?_) (fun c4 => ?_)
   ·have hmo : wu w.U[ix] w.U[iu] = 8 := by unfold wu; rw [if_neg c3, if_pos c4]
    rw [hmo] at hA
    have e5 := zqd c1 (by rw [qe hlt hall (by rw [hA]; decide), hA]; decide)
    rw [qe hlt hall (by rw [hA]; decide), hA] at e5
    rw [e5] at h
    exact ret (h _ (by decide))
   have hmo : wu w.U[ix] w.U[iu] = 0 := by unfold wu; rw [if_neg c3, if_neg c4]
   rw [hmo] at hA
   refine in64 (by omega) ?_
   refine ⟨i + 1, ?_, ⟨by omega, rfl, fun j hj hji => ?_⟩, ⟨lr_ _, lr_ _, lr_ _, lr_ _, trivial⟩, ⟨rfl, rfl, trivial⟩⟩
   ·show c.U.length - (i + 1) < c.U.length - i
    omega
   ·by_cases e : j = i
    ·subst e; exact hA
    ·exact hall j hj (by omega)
  ·refine ⟨qh hv (by omega) c.U[i] _ ⟨(by repeat (first | exact trivial | refine ⟨rfl, ?_⟩ | refine ⟨za (o := S.obj p) _ hp rfl, ?_⟩ | refine ⟨⟨i, rfl, za _ (zi hlt) rfl⟩, ?_⟩ | refine ⟨⟨iu, rfl, hiu, rfl⟩, ?_⟩ | refine ⟨za (o := S.obj b) _ hob (z7 (i := ti50) (row := untC w.U[iu]) rfl rfl (zy zm hiu) rfl), ?_⟩ | refine ⟨in64 (by rw [zf]; omega) rfl, ?_⟩)), ?_⟩, trivial⟩
   rw [hfu]
   refine ⟨iu, rfl, hiu, ?_⟩
   refine za (o := S.obj b) _ hob ?_
   refine z7 (i := ti50) (row := untC w.U[iu]) rfl rfl (zy zm hiu) ?_
   refine ⟨⟨trivial, ?_⟩, trivial⟩
   refine qn w.U[iu].kind (hm.hk _ (List.getElem_mem hiu)) _ _ ?_
   refine bcd (fun c3 => ?_) (fun c3 => ?_)
   ·have hmo : wu w.U[ix] w.U[iu] = 7 := by unfold wu; rw [if_pos c3]
    rw [hmo] at hA
    have e5 := zqd c1 (by rw [qe hlt hall (by rw [hA]; decide), hA]; decide)
    rw [qe hlt hall (by rw [hA]; decide), hA] at e5
    rw [e5] at h
    exact ret (h _ (by decide))
   refine zfa w.U[iu].pos w.U[ix].pos (hn _ (List.getElem_mem hiu)) (hn _ (List.getElem_mem hix)) _ _ ?_
   refine bcd (fun c4 => ?_) (fun c4 => ?_)
   ·have hmo : wu w.U[ix] w.U[iu] = 8 := by unfold wu; rw [if_neg c3, if_pos c4]
    rw [hmo] at hA
    have e5 := zqd c1 (by rw [qe hlt hall (by rw [hA]; decide), hA]; decide)
    rw [qe hlt hall (by rw [hA]; decide), hA] at e5
    rw [e5] at h
    exact ret (h _ (by decide))
   have hmo : wu w.U[ix] w.U[iu] = 0 := by unfold wu; rw [if_neg c3, if_neg c4]
   rw [hmo] at hA
   refine in64 (by omega) ?_
   refine ⟨i + 1, ?_, ⟨by omega, rfl, fun j hj hji => ?_⟩, ⟨lr_ _, lr_ _, lr_ _, lr_ _, trivial⟩, ⟨rfl, rfl, trivial⟩⟩
   ·show c.U.length - (i + 1) < c.U.length - i
    omega
   ·by_cases e : j = i
    ·subst e; exact hA
    ·exact hall j hj (by omega)
 have : i = c.U.length := y9 h1 hi
 subst this
 have hzero : allE (ldA w c.P c.N) c.U = 0 := zar fun j hj => hall j hj hj
 have e5 := yij c1 hzero
 rw [hux] at e5
 have hall := ky hzero
 refine ADraw.of_sched ze (by rfl) (by rfl) zzv (by rfl) ?_
 refine za (o := S.obj p) _ hp ?_
 refine ⟨zb7 hv (by omega) c.N _ ⟨(by repeat (first | exact trivial | refine ⟨rfl, ?_⟩ | refine ⟨za (o := S.obj p) _ hp rfl, ?_⟩)), ?_⟩, trivial⟩
 refine in64 (by rw [zf, zf]; omega) ?_
 refine ⟨qn w.U[ix].kind (hm.hk _ (List.getElem_mem hix)) _ _ ⟨(by repeat (first | exact trivial | refine ⟨rfl, ?_⟩ | refine ⟨za (o := S.obj p) _ hp rfl, ?_⟩)), ?_⟩, trivial⟩
 refine bcd (fun h2 => ?_) (fun h2 => ?_)
 ·rw [zf, zf] at h2
  rw [if_pos h2] at e5
  rw [e5] at h
  exact ret (h _ (by decide))
 rw [zf, zf] at h2
 rw [if_neg h2] at e5
 refine AWp.loop (σ := Nat × Store) ⟨fun x => [(0, .av (ptr p)), (3, .bx 3 0), (9, .av (int (x.1 : Nat)))], fun _ => [(3, cmdC c)],
  fun x st' => x.1 ≤ c.U.length ∧ st' = x.2 ∧ x.2.obj p = some (.cells (wldV w (.s (.slice oa w.U.length cap)))) ∧ RowsQ 10 untC x.2 (.s (.slice oa w.U.length cap)) (setU (c.U.take x.1) (ldU c.N) w.U), fun x => c.U.length - x.1⟩ ze ?_ ?_
 ·refine ⟨(0, S), trivial, ⟨Nat.zero_le _, rfl, hp, ?_⟩, ⟨lr_ _, lr_ _, lr_ _, trivial⟩, ⟨rfl, trivial⟩⟩
  dsimp only
  rw [List.take_zero, zau]
  exact hv
 rintro ⟨k, S0⟩ S1 ⟨hk, rfl, hp1, hr1⟩
 dsimp only at hk hp1 hr1 ⊢
 refine zd (fun h1 => ?_) (fun h1 => ?_)
 rotate_left
 ·have hkl : k = c.U.length := y9 h1 hk
  subst hkl
  rw [List.take_length] at hr1
  exact ret (h0 e5 _ _ hp1 hr1)
 have hlt := yw h1
 obtain ⟨iu, hiu, hfu, hidu, huu, _, _⟩ := qt (zon (hall c.U[k] (List.getElem_mem hlt))).1
 have hi2 : iu < (setU (c.U.take k) (ldU c.N) w.U).length := by rw [y3]; exact hiu
 have hf2 : yp (setU (c.U.take k) (ldU c.N) w.U) c.U[k] = some iu := by rw [zk9 (g := ldU c.N) (fun _ => rfl)]; exact hfu
 rcases hr1 with (⟨_, hl0⟩ | ⟨b, cap', J, e, ho, hc1, hc2, hc3⟩) | ⟨_, _, _, hl0⟩
 ·rw [hl0] at hi2; exact absurd hi2 (Nat.not_lt_zero iu)
 rotate_left
 ·rw [hl0] at hi2; exact absurd hi2 (Nat.not_lt_zero iu)
 simp only [AV.s.injEq, Value.slice.injEq] at e
 obtain ⟨rfl, e7, rfl⟩ := e
 have hcap : 0 < cap := by omega
 have hbp : b ≠ p := hoff b _ _ rfl hcap
 refine ADraw.of_sched ze (by rfl) (by rfl) zzu (by rfl) ?_
 refine za (o := S1.obj p) _ hp1 ?_
 refine za (o := S1.obj p) _ hp1 ?_
 refine ⟨k, rfl, za _ (zi hlt) ?_⟩
 refine ⟨qh (w := { w with U := setU (c.U.take k) (ldU c.N) w.U }) (.inl (.inr ⟨b, cap, J, by rw [e7], ho, hc1, hc2, hc3⟩)) (by rw [y3]; omega) c.U[k] _ ⟨(by repeat (first | exact trivial | refine ⟨rfl, ?_⟩ | refine ⟨⟨k, rfl, za _ (zi hlt) rfl⟩, ?_⟩ | refine ⟨za (o := S1.obj p) _ hp1 rfl, ?_⟩)), ?_⟩, trivial⟩
 dsimp only
 rw [hf2]
 refine ⟨iu, rfl, hiu, ?_⟩
 refine ⟨⟨trivial, ?_⟩, trivial⟩
 have e8 : (setU (c.U.take k) (ldU c.N) w.U).length = w.U.length := y3 _ _ _
 have hidk : (setU (c.U.take k) (ldU c.N) w.U).set iu (ldU c.N (setU (c.U.take k) (ldU c.N) w.U)[iu]) = setU (c.U.take (k + 1)) (ldU c.N) w.U := by
  have e5 : c.U.take k ++ [w.U[iu].id] = c.U.take (k + 1) := by rw [List.take_succ_eq_append_getElem hlt, hidu]
  have e6 : ldU c.N ((setU (c.U.take k) (ldU c.N) w.U)[iu]) = ldU c.N w.U[iu] := by
   rw [zb2 hiu]
   split <;> rfl
  rw [e6, zed hm.hr hiu, e5]
 generalize hgU : setU (c.U.take k) (ldU c.N) w.U = U1 at *
 refine zq (i := ti3) (v := int c.N) (b := b) (o := 0 + iu * 10 + 8) (l := (rws untC (U1)).flatten ++ J) rfl rfl rfl ho (show 0 + iu * 10 + 8 + 1 ≤ _ by rw [List.length_append, zk zm, e8]; omega) ?_
 have q1 := xj (x' := { U1[iu] with inn := c.N }) (ys := [int c.N]) (j := 8) ho hi2 (show 8 + 1 ≤ 10 by decide) rfl
 have p1 := (zh (st := S1) (x := .cells (zn ((rws untC (U1)).flatten ++ J) (0 + iu * 10 + 8) [int c.N])) (Ne.symm hbp)).trans hp1
 generalize S1.setObj b _ = S2 at q1 p1 ⊢
 refine yu (i := ti38) (v := .agg [int 0, int 0]) (xs := [int 0, int 0]) (b := b) (o := 0 + iu * 10 + 3) (l := (rws untC (U1.set iu { U1[iu] with inn := c.N })).flatten ++ J) rfl rfl rfl q1 (show 0 + iu * 10 + 3 + 2 ≤ _ by rw [List.length_append, zk zm, List.length_set, e8]; omega) ?_
 have q2 := xj (x' := { U1[iu] with inn := c.N, pos := (0, 0) }) (ys := [int 0, int 0]) (j := 3) q1 (by rw [List.length_set]; exact hi2) (by decide) (by rw [List.getElem_set_self]; rfl)
 rw [List.set_set] at q2
 have p2 := (zh (st := S2) (x := .cells (zn ((rws untC (U1.set iu { U1[iu] with inn := c.N })).flatten ++ J) (0 + iu * 10 + 3) [int 0, int 0])) (Ne.symm hbp)).trans p1
 generalize S2.setObj b _ = S3 at q2 p2 ⊢
 refine zq (i := ti3) (v := int (-1)) (b := b) (o := 0 + iu * 10 + 5) (l := (rws untC (U1.set iu { U1[iu] with inn := c.N, pos := (0, 0) })).flatten ++ J) rfl rfl rfl q2 (show 0 + iu * 10 + 5 + 1 ≤ _ by rw [List.length_append, zk zm, List.length_set, e8]; omega) ?_
 have q3 := xj (x' := { U1[iu] with inn := c.N, pos := (0, 0), goal := -1 }) (ys := [int (-1)]) (j := 5) q2 (by rw [List.length_set]; exact hi2) (by decide) (by rw [List.getElem_set_self]; rfl)
 rw [List.set_set] at q3
 have p3 := (zh (st := S3) (x := .cells (zn ((rws untC (U1.set iu { U1[iu] with inn := c.N, pos := (0, 0) })).flatten ++ J) (0 + iu * 10 + 5) [int (-1)])) (Ne.symm hbp)).trans p2
 generalize S3.setObj b _ = S4 at q3 p3 ⊢
 refine zq (i := ti3) (v := int (-1)) (b := b) (o := 0 + iu * 10 + 6) (l := (rws untC (U1.set iu { U1[iu] with inn := c.N, pos := (0, 0), goal := -1 })).flatten ++ J) rfl rfl rfl q3 (show 0 + iu * 10 + 6 + 1 ≤ _ by rw [List.length_append, zk zm, List.length_set, e8]; omega) ?_
 have q4 := xj (x' := { U1[iu] with inn := c.N, pos := (0, 0), goal := -1, next := -1 }) (ys := [int (-1)]) (j := 6) q3 (by rw [List.length_set]; exact hi2) (by decide) (by rw [List.getElem_set_self]; rfl)
 rw [List.set_set] at q4
 have p4 := (zh (st := S4) (x := .cells (zn ((rws untC (U1.set iu { U1[iu] with inn := c.N, pos := (0, 0), goal := -1 })).flatten ++ J) (0 + iu * 10 + 6) [int (-1)])) (Ne.symm hbp)).trans p3
 generalize S4.setObj b _ = S5 at q4 p4 ⊢
 refine zq (i := ti3) (v := int 0) (b := b) (o := 0 + iu * 10 + 7) (l := (rws untC (U1.set iu { U1[iu] with inn := c.N, pos := (0, 0), goal := -1, next := -1 })).flatten ++ J) rfl rfl rfl q4 (show 0 + iu * 10 + 7 + 1 ≤ _ by rw [List.length_append, zk zm, List.length_set, e8]; omega) ?_
 have q5 := xj (x' := { U1[iu] with inn := c.N, pos := (0, 0), goal := -1, next := -1, stuck := 0 }) (ys := [int 0]) (j := 7) q4 (by rw [List.length_set]; exact hi2) (by decide) (by rw [List.getElem_set_self]; rfl)
 rw [List.set_set] at q5
 have p5 := (zh (st := S5) (x := .cells (zn ((rws untC (U1.set iu { U1[iu] with inn := c.N, pos := (0, 0), goal := -1, next := -1 })).flatten ++ J) (0 + iu * 10 + 7) [int 0])) (Ne.symm hbp)).trans p4
 generalize S5.setObj b _ = S6 at q5 p5 ⊢
 refine zq (i := ti3) (v := int 0) (b := b) (o := 0 + iu * 10 + 9) (l := (rws untC (U1.set iu { U1[iu] with inn := c.N, pos := (0, 0), goal := -1, next := -1, stuck := 0 })).flatten ++ J) rfl rfl rfl q5 (show 0 + iu * 10 + 9 + 1 ≤ _ by rw [List.length_append, zk zm, List.length_set, e8]; omega) ?_
 have q6 := xj (x' := ldU c.N U1[iu]) (ys := [int 0]) (j := 9) q5 (by rw [List.length_set]; exact hi2) (by decide) (by rw [List.getElem_set_self]; rfl)
 rw [List.set_set] at q6
 have p6 := (zh (st := S6) (x := .cells (zn ((rws untC (U1.set iu { U1[iu] with inn := c.N, pos := (0, 0), goal := -1, next := -1, stuck := 0 })).flatten ++ J) (0 + iu * 10 + 9) [int 0])) (Ne.symm hbp)).trans p5
 generalize S6.setObj b _ = S7 at q6 p6 ⊢
 rw [hidk] at q6
 refine in64 (by omega) ?_
 have e9 : (setU (c.U.take (k + 1)) (ldU c.N) w.U).length = w.U.length := y3 _ _ _
 refine ⟨(k + 1, S7), ?_, ⟨by dsimp only; omega, rfl, p6, .inl (.inr ⟨b, cap, J, by rw [e9], q6, by rw [e9, ← e8]; exact hc1, by rw [e9, ← e8]; exact hc2, hc3⟩)⟩, ⟨lr_ _, lr_ _, lr_ _, trivial⟩, ⟨rfl, trivial⟩⟩
 show c.U.length - (k + 1) < c.U.length - k
 omega
theorem zml (w : Wld) (hw : w.fits) (hn : ∀ u ∈ w.U, u.pos.ok) (hU : w.U.length ≤ 1000000) (c : Cmd) (hc : c.fits) (hK : c.K = 6) : ACalls Tryz.prog 34 [.agg (wldC w), .agg (cmdC c)] Store.empty (DoQ ldE ldW w c) := by
 refine ACalls.of_body (c := cfg 97 [6] []) ze Tryz.func34 (by rfl) (by rfl) (by rfl) (by rfl) ?_
 have bad : (¬ mayP w ∨ ¬ cmdP c ∨ w.players < c.P) → DoQ ldE ldW w c (.tup [.agg (wldC w), int 1]) Store.empty := fun hb => by
  have he := j5 (E := ldE) (w := w) (c := c) hb
  exact .inl ⟨by rw [he]; decide, by rw [he]⟩
 refine qz w hw hn _ _ (fun z hz => ?_)
 refine yc ?_
 refine zd (fun c1 => ?_) (fun c1 => ?_)
 rotate_left
 ·exact ret (bad (.inl fun hh => by have := hz.2 hh; rw [this] at c1; cases c1))
 refine yy c hc _ _ (fun zc hzc => ?_)
 refine yc ?_
 refine zd (fun c2 => ?_) (fun c2 => ?_)
 rotate_left
 ·exact ret (bad (.inr (.inl fun hh => by have := hzc.2 hh; rw [this] at c2; cases c2)))
 refine bcd (fun c3 => ?_) (fun c3 => ?_)
 ·exact ret (bad (.inr (.inr (by omega))))
 have hm := hz.1 c1
 have hcp := hzc.1 c2
 have he := zam (E := ldE) hm hcp (show c.P ≤ w.players by omega)
 have hok := (Cmd.ok6 hK).1 hcp.1
 refine qc w hw hU _ _ (fun v N hv _ => ?_)
 rw [xr]
 have hv := hv.q
 have hoff := fun (p : Nat) (hp : Fresh N p) => qo hv (xy (fresh_iff.1 hp)).1
 obtain ⟨oa, cap, e, _⟩ := hv.form
 subst e
 refine fun p hp => ?_
 refine yu (i := ti28) (v := .agg (wldV w (.s (.slice oa w.U.length cap)))) (xs := wldV w (.s (.slice oa w.U.length cap))) (b := p) (o := 0) (l := _) rfl rfl rfl (zb _ _ _) (show 0 + 8 ≤ 8 by decide) ?_
 generalize hS : (N.setObj p _).setObj p _ = S
 have hp2 : S.obj p = some (.cells (wldV w (.s (.slice oa w.U.length cap)))) := by rw [← hS]; exact zb _ _ _
 have hr2 : RowsQ 10 untC S (.s (.slice oa w.U.length cap)) w.U := by rw [← hS]; exact (hv.set (hoff p hp) _).set (hoff p hp) _
 refine bceq (fun h => absurd (hK.symm.trans h) (by decide)) (fun _ => ?_)
 refine bceq (fun h => absurd (hK.symm.trans h) (by decide)) (fun _ => ?_)
 refine bceq (fun h => absurd (hK.symm.trans h) (by decide)) (fun _ => ?_)
 refine bceq (fun h => absurd (hK.symm.trans h) (by decide)) (fun _ => ?_)
 refine bceq (fun h => absurd (hK.symm.trans h) (by decide)) (fun _ => ?_)
 refine bceq (fun _ => ?_) (fun h => absurd hK h)
 refine zpq hp2 hr2 (hoff p hp) hm hn c hok.1.1.2 hok.2.1 _ (fun S' hE => ?_) (fun hE S' v' g1 g2 => ?_)
 ·refine bcne (fun _ => ?_) (fun h => absurd h hE)
  exact ret (.inl ⟨by rw [he]; exact hE, by rw [he]; rfl⟩)
 ·obtain ⟨oa2, cap2, e2, _⟩ := g2.form
  subst e2
  refine za (o := S'.obj p) _ g1 ?_
  exact ret (.inr ⟨he.trans hE, _, g2, rfl⟩)
theorem ref6 : zgn 6 ldE ldW := fun w hw hn hU c hc hK R h => wg (zml w hw hn hU c hc hK) R h
end Go.Proofs
