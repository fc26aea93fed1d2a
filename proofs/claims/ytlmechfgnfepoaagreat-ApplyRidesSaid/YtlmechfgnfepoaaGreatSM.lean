/- The ground on which laws of thronglaw23 are proved: contracts of functions and plain lemmas; no condition beyond the row's own. -/
import Derived.Test.YtlmechfgnfepoaaGreatSK
import Derived.Test.YtlmechfgnfepoaaGreatSC
import Derived.Test.YtlmechfgnfepoaaGreatSI
import Derived.Test.YtlmechfgnfepoaaGreatSG
import Derived.Test.YtlmechfgnfepoaaGreatSJ
set_option linter.unusedSimpArgs false
set_option linter.unusedVariables false
namespace Go.Proofs
open Go Go.V
theorem zos (m : Int) (hm : 0 ≤ m) (st : Store) (R : AV → Store → Prop) (h : ∀ r, zh4 m r → R (int r) st) : ACalls Tryz.prog 226 [.agg (ki m)] st R := by
 refine ACalls.of_body (c := cfg 22) zd Tryz.func226 (by rfl) (by rfl) (by rfl) (by rfl) ?_
 refine AWp.loop (σ := Nat × Int) ⟨fun x => [(1, .bx 1 0), (3, .av (u64 x.2)), (4, .av (int ((x.1 : Int) - 1)))], fun _ => [(1, ki m)],
  fun x st' => x.1 ≤ 63 ∧ st' = st ∧ zb6 m x.2 x.1, fun x => x.1⟩ zd ?_ ?_
 ·exact ⟨(63, 0), trivial, ⟨Nat.le_refl _, rfl, zhm hm⟩, ⟨lr_ _, lr_ _, lr_ _, trivial⟩, ⟨rfl, trivial⟩⟩
 rintro ⟨k, r⟩ st' ⟨hk, rfl, hr⟩
 dsimp only at hk hr ⊢
 refine bcd (fun h1 => ?_) (fun h1 => ?_)
 rotate_left
 ·have : k = 0 := by omega
  subst this
  have hi := zmg hr
  have h2 := h r hi
  have hi0 := hi.1
  exact ⟨⟨by omega, hi.2.1⟩, ret h2⟩
 cases k with
 | zero => omega
 | succ k =>
  obtain ⟨e1, e2, e3, e4⟩ := zmh hr
  have e5 : ((k + 1 : Nat) : Int) - 1 = (k : Int) := by omega
  refine ⟨by omega, ?_⟩
  have e7 : xz .or .u64 r (IntKind.u64.wrap (1 * 2 ^ (min (((k + 1 : Nat) : Int) - 1).toNat IntKind.u64.bits))) = r + 2 ^ k := by rw [e5, shl1 (by omega), e1]
  have e8 : ∀ X, X = r + 2 ^ k → 0 ≤ X ∧ X < 18446744073709551616 ∧ 0 ≤ X * X := fun X hX => by subst hX; exact ⟨by omega, by omega, Int.mul_nonneg (by omega) (by omega)⟩
  have e8 := e8 _ e7
  refine ADraw.of_sched zd (by rfl) (by rfl) zv6 (by rfl) ?_
  refine ⟨j2 _ e8.1 e8.2.1 _ _ ⟨(by repeat (first | exact trivial | refine ⟨rfl, ?_⟩ | refine ⟨optR (optR (optR (za _ (zb _ _ _) rfl))), ?_⟩)), ?_⟩, trivial⟩
  refine ⟨zfl m _ hm e8.2.2 _ _ ⟨(by repeat (first | exact trivial | refine ⟨rfl, ?_⟩ | refine ⟨optR (optR (optR (za _ (zb _ _ _) rfl))), ?_⟩)), ?_⟩, trivial⟩
  have no := fun hh => zot hr hh
  have yes := fun hh => zmf hr hh
  rw [← e7] at no yes
  generalize xz .or .u64 r (IntKind.u64.wrap (1 * 2 ^ (min (((k + 1 : Nat) : Int) - 1).toNat IntKind.u64.bits))) = X at *
  refine yv ?_
  refine bcd (fun c1 => ?_) (fun c1 => ?_)
  ·refine ⟨by unfold yd; omega, ?_⟩
   refine ⟨(k, r), ?_, ⟨by dsimp only; omega, rfl, no c1⟩, ⟨lr_ _, lr_ _, ?_, trivial⟩, ⟨rfl, trivial⟩⟩
   ·show k < k + 1
    omega
   ·rw [e5]; exact lr_ _
  ·refine ⟨by unfold yd; omega, ?_⟩
   refine ⟨(k, X), ?_, ⟨by dsimp only; omega, rfl, yes (by omega)⟩, ⟨lr_ _, lr_ _, ?_, trivial⟩, ⟨rfl, trivial⟩⟩
   ·show k < k + 1
    omega
   ·rw [e5]; exact lr_ _
theorem zx2 (v : Vc) (hv : v.ok) (st : Store) (R : AV → Store → Prop) (h : ∀ r, zh4 (sqr v) r → R (int r) st) : ACalls Tryz.prog 207 [.agg (vecC v)] st R := by
 have hb := zn7 hv
 refine ACalls.of_body (c := cfg 6) zd Tryz.func207 (by rfl) (by rfl) (by rfl) (by rfl) ?_
 refine zdc v hv _ _ ?_
 refine zos (sqr v) (by unfold sqr; omega) _ _ (fun r hr => ?_)
 exact ret (h r hr)
theorem zll (p q : Vc) (hp : p.ok) (hq : q.ok) (st : Store) (R : AV → Store → Prop) (h : R (V.bool (decide (farP p q))) st) : ACalls Tryz.prog 173 [.agg (vecC p), .agg (vecC q)] st R := by
 refine ACalls.of_body (c := cfg 10) zd Tryz.func173 (by rfl) (by rfl) (by rfl) (by rfl) ?_
 refine zgz p q hp hq _ _ ?_
 refine zx2 _ (zc6 p q) _ _ (fun r hr => ?_)
 refine ret ?_
 rw [show decide (farP p q) = decide (131072 < r) from by rw [Bool.eq_iff_iff]; simp only [decide_eq_true_eq]; exact (zxp hr).symm] at h
 exact h
end Go.Proofs
namespace Go.Proofs
open Go Go.V
theorem zlk {l : List Unt} (hr : z7 l) {id : Int} {i : Nat} {z : Bool} (h : z = true ↔ ∃ hi : i < l.length, l[i].id = id) (hat : isAt l id i) : (z = true → yr l id = some i) ∧ (z = false → yr l id = none) := by
 refine ⟨fun hz => ?_, fun hz => ?_⟩
 ·obtain ⟨hi, e⟩ := h.1 hz
  exact zgh hr hi e
 ·cases hf : yr l id with
  | none => rfl
  | some k =>
   obtain ⟨hk, e⟩ := xp hf
   have hno : ¬ ∃ hi : i < l.length, l[i].id = id := fun hh => by rw [h.2 hh] at hz; cases hz
   by_cases h1 : k < i
   ·have := hat.2.1 k hk h1; omega
   ·have hil : i < l.length := by omega
    have := hat.2.2 i hil (Nat.le_refl _)
    by_cases h2 : i < k
    ·have := za8 hr h2 hk; omega
    ·have e3 : k = i := by omega
     subst e3
     exact absurd ⟨hk, e⟩ hno
/-- A place of work, as it is read. -/
structure AtW (S : Store) (xw s p : Nat) (w : Wld) (v o0 o1 o2 : AV) (c : Cmd) (fv : AV) : Prop where
 hx : S.obj xw = some (.cells (wkC s c fv))
 hs : S.obj s = some (.cells (svC w v o0 o1 o2 p))
 hr : RowsQ 10 untC S v w.U
theorem zgv {S : Store} {xw s p : Nat} {w : Wld} {v o0 o1 o2 : AV} {c : Cmd} {fv : AV} (ha : AtW S xw s p w v o0 o1 o2 c fv) (hr : z7 w.U) (hU : w.U.length ≤ 1000000) (id : Int) (R : AV → Store → Prop) (h : R (.tup [.agg (untC (uAt w id)), int (askE w c.P id)]) S) : ACalls Tryz.prog 201 [ptr xw, int id] S R := by
 obtain ⟨hx, hs, hv⟩ := ha
 obtain ⟨oa, cap, e, hget⟩ := hv.form
 subst e
 refine ACalls.of_body (c := cfg 52) zd Tryz.func201 (by rfl) (by rfl) (by rfl) (by rfl) ?_
 refine za (o := S.obj xw) _ hx ?_
 refine za (o := S.obj s) _ hs ?_
 refine zc4 hv (by omega) hr id _ (fun i hi z hz => ?_)
 obtain ⟨g1, g2⟩ := zlk hr hz hi
 cases z with
 | false =>
  obtain ⟨e1, e2⟩ := zd8 (w := w) (P := c.P) (g2 rfl)
  rw [e1, e2] at h
  exact ret h
 | true =>
  obtain ⟨hil, hid⟩ := hz.1 rfl
  obtain ⟨_, _, e2⟩ := zfs (w := w) (g1 rfl)
  rw [e2, zi2 (P := c.P) (g1 rfl) hil] at h
  refine za (o := S.obj xw) _ hx ?_
  refine za (o := S.obj s) _ hs ?_
  obtain ⟨b, J, rfl, hob⟩ := hget i hil
  refine ⟨i, rfl, hil, ?_⟩
  refine za (o := S.obj b) _ hob ?_
  refine vt (i := ti50) (row := untC w.U[i]) rfl rfl (vr qb hil) ?_
  refine ADraw.of_sched zd (by rfl) (by rfl) zv8 (by rfl) ?_
  refine za (o := S.obj xw) _ hx ?_
  refine ⟨⟨(by repeat (first | exact trivial | refine ⟨rfl, ?_⟩ | refine ⟨optR (optR (optR (za _ (zb _ _ _) rfl))), ?_⟩)), ?_⟩, trivial⟩
  refine bcne (fun c1 => ?_) (fun c1 => ?_)
  ·rw [if_neg c1] at h
   exact ret h
  rw [if_pos c1] at h
  refine bcne (fun c2 => ?_) (fun c2 => ?_)
  ·rw [if_neg c2] at h
   exact ret h
  ·rw [if_pos c2] at h
   exact ret h
theorem all_nil {S : Store} {xw s p : Nat} {w : Wld} {v o0 o1 o2 : AV} {c : Cmd} {fv : AV} (ha : AtW S xw s p w v o0 o1 o2 c fv) (hr : z7 w.U) (hU : w.U.length ≤ 1000000) (hc : c.U.length ≤ 1000000) (R : AV → Store → Prop)
  (h : allE (askE w c.P) c.U = 0 → R (.tup [lst 10 untC (c.U.map (uAt w)), int 0]) S) (h' : allE (askE w c.P) c.U ≠ 0 → R (.tup [.s (.slice none 0 0), int (allE (askE w c.P) c.U)]) S) : ACalls Tryz.prog 163 [ptr xw, .s .nilFunc] S R := by
 refine ACalls.of_body (c := cfg 44) zd Tryz.func163 (by rfl) (by rfl) (by rfl) (by rfl) ?_
 refine za (o := S.obj xw) _ ha.hx ?_
 refine AWp.loop (σ := Nat × AV) ⟨fun x => [(0, .av (ptr xw)), (1, .av (.s .nilFunc)), (4, .av x.2), (14, .av (ints c.U)), (15, .av (int (c.U.length : Nat))), (16, .av (int (x.1 : Nat)))], fun _ => [],
  fun x st' => x.1 ≤ c.U.length ∧ App 10 S x.2 (rws untC ((c.U.take x.1).map (uAt w))) st' ∧ ∀ j, (hj : j < c.U.length) → j < x.1 → askE w c.P c.U[j] = 0, fun x => c.U.length - x.1⟩ zd ?_ ?_
 ·refine ⟨(0, _), trivial, ⟨Nat.zero_le _, App.start 10 S, fun j _ hj => by omega⟩, ⟨lr_ _, lr_ _, lr_ _, lr_ _, ?_, lr_ _, trivial⟩, trivial⟩
  rw [← zh (f := intC) c.U]; exact lr_ _
 rintro ⟨i, v2⟩ st' ⟨hi, hap, hall⟩
 dsimp only at hi hap hall ⊢
 refine bcd (fun h1 => ?_) (fun h1 => ?_)
 rotate_left
 ·have : i = c.U.length := by omega
  subst this
  rw [List.take_length] at hap
  exact ⟨_, _, AV.le_tupL (xs := [v2, int 0]) (ys := [lst 10 untC (c.U.map (uAt w)), int 0]) ⟨AV.le_trans hap.le (ar_ _), ar_ _, trivial⟩, hap.has, h (zeb fun j hj => hall j hj hj)⟩
 have hlt : i < c.U.length := by omega
 have ha' : AtW st' xw s p w v o0 o1 o2 c fv := ⟨by rw [hap.obj]; exact ha.hx, by rw [hap.obj]; exact ha.hs, ha.hr.sub fun _ _ _ _ => by rw [hap.obj]⟩
 refine ⟨i, rfl, za _ (zj hlt) ?_⟩
 refine zgv ha' hr hU c.U[i] _ ?_
 refine bceq (fun c1 => ?_) (fun c1 => ?_)
 rotate_left
 ·refine bcne (fun c2 => ?_) (fun c2 => absurd c2 c1)
  have e := zea hlt hall c1
  have := h' (by rw [e]; exact c1)
  rw [e] at this
  exact ⟨_, _, ar_ _, hap.has, this⟩
 refine bcne (fun c2 => absurd c1 c2) (fun c2 => ?_)
 refine ⟨by decide, ?_⟩
 refine qh (ie := ti50) (rows' := [untC (uAt w c.U[i])]) hap ?_ ?_ ⟨?_, ?_⟩ (fun v3 st3 ha3 => ?_)
 ·rfl
 ·rfl
 ·simp only [zh, List.length_map, List.length_take, List.length_singleton, ti50]; omega
 ·simp only [zh, List.length_map, List.length_take, List.length_singleton]; omega
 refine in64 (by omega) ?_
 refine ⟨(i + 1, v3), ?_, ⟨by dsimp only; omega, ?_, fun j hj hji => ?_⟩, ⟨lr_ _, lr_ _, lr_ _, lr_ _, lr_ _, lr_ _, trivial⟩, trivial⟩
 ·show c.U.length - (i + 1) < c.U.length - i
  omega
 ·dsimp only
  rw [List.take_succ_eq_append_getElem hlt, List.map_append]
  unfold rws at ha3 ⊢
  rw [List.map_append]
  exact ha3
 ·by_cases e : j = i
  ·subst e; exact c1
  ·exact hall j hj (by dsimp only at hji; omega)
theorem zo5 {F G : Store} {s p : Nat} {w : Wld} {v : AV} {L : List Ent} {o0 o1 o2 : AV} (hS : StandR F G s p w v L o0 o1 o2) (hos : offB v s) (hr : z7 w.U) (hU : w.U.length ≤ 1000000) (hL : L.length ≤ 1000000) (hok : ∀ e ∈ L, e.2.ok) {i : Nat} (hi : i < w.U.length) (u : Unt) (hid : w.U[i].id = u.id) (hp : u.pos.ok) (R : AV → Store → Prop)
  (h : ∀ F' G', StandR F' G' s p { w with U := w.U.set i u } v (entP L u) o0 o1 o2 → (∀ q, offB v q → G'.obj q = G.obj q) → R (.tup []) (F'.un (svS G' s { w with U := w.U.set i u } v o0 o1 o2 p))) :
  ACalls Tryz.prog 165 [ptr s, .agg (untC u)] (F.un (svS G s w v o0 o1 o2 p)) R := by
 have hrow : RowsQ 10 untC (F.un (svS G s w v o0 o1 o2 p)) v w.U := (kj hS.hs hS.hu).un
 have hs0 : (F.un (svS G s w v o0 o1 o2 p)).obj s = some (.cells (svC w v o0 o1 o2 p)) := un_r (qn _ _ _ _ _ _ _ _)
 rcases hS.hu with (⟨_, hl0⟩ | ⟨b, cap, J, rfl, ho, hc1, hc2, hc3⟩) | ⟨_, _, _, hl0⟩
 ·rw [hl0] at hi; exact absurd hi (Nat.not_lt_zero i)
 rotate_left
 ·rw [hl0] at hi; exact absurd hi (Nat.not_lt_zero i)
 have hbs : b ≠ s := hos b _ _ rfl (by omega)
 have hob : (F.un (svS G s w (.s (.slice (some ⟨b, 0, none⟩) w.U.length cap)) o0 o1 o2 p)).obj b = some (.cells ((rws untC w.U).flatten ++ J)) := un_r (by
  show (G.setObj s _).obj b = _
  rw [zg hbs]; exact ho)
 refine ACalls.of_body (c := cfg 44) zd Tryz.func165 (by rfl) (by rfl) (by rfl) (by rfl) ?_
 refine ADraw.of_sched zd (by rfl) (by rfl) zwp (by rfl) ?_
 refine za (o := (F.un (svS G s w _ o0 o1 o2 p)).obj s) _ hs0 ?_
 refine ⟨zc4 hrow (by omega) hr u.id _ (fun k hk z hz => ⟨(by repeat (first | exact trivial | refine ⟨rfl, ?_⟩ | refine ⟨optR (optR (optR (za _ (zb _ _ _) rfl))), ?_⟩)), ?_⟩), trivial⟩
 have hki : k = i := by
  by_cases h1 : k < i
  ·have := hk.2.2 k (by omega) (Nat.le_refl _)
   have := za8 hr h1 hi
   omega
  ·by_cases h2 : i < k
   ·have := hk.2.1 i hi h2; omega
   ·omega
 subst hki
 refine ⟨⟨trivial, ?_⟩, trivial⟩
 refine ⟨⟨trivial, ?_⟩, trivial⟩
 refine ADraw.of_sched zd (by rfl) (by rfl) zwo (by rfl) ?_
 refine za (o := (F.un (svS G s w _ o0 o1 o2 p)).obj s) _ hs0 ?_
 refine ⟨k, rfl, hi, ?_⟩
 refine ⟨?_, trivial⟩
 refine za _ rfl (y3 rfl (qj (v := .agg (untC u)) rfl rfl rfl rfl ?_))
 refine jl (i := ti50) (v := .agg (untC u)) (xs := untC u) (b := b) (o := 0 + k * 10) (l := (rws untC w.U).flatten ++ J) rfl rfl rfl hob (by rw [List.length_append, zu qb, qb]; omega) ?_
 have e0 : (F.un (svS G s w (.s (.slice (some ⟨b, 0, none⟩) w.U.length cap)) o0 o1 o2 p)).setObj b (.cells (zn ((rws untC w.U).flatten ++ J) (0 + k * 10) (untC u))) = F.un (svS (G.setObj b (.cells ((rws untC (w.U.set k u)).flatten ++ J))) s { w with U := w.U.set k u } (.s (.slice (some ⟨b, 0, none⟩) w.U.length cap)) o0 o1 o2 p) := by
  rw [Nat.zero_add, zxo qb hi u J, zo]
  unfold svS
  rw [km hbs]
  rfl
 rw [e0]
 have hG : ∀ q, q ≠ b → (G.setObj b (.cells ((rws untC (w.U.set k u)).flatten ++ J))).obj q = G.obj q := fun q hq => zg hq
 have hS' : StandR F (G.setObj b (.cells ((rws untC (w.U.set k u)).flatten ++ J))) s p { w with U := w.U.set k u } (.s (.slice (some ⟨b, 0, none⟩) w.U.length cap)) L o0 o1 o2 := by
  refine ⟨hS.hc, fun j h1 h2 => hS.hd j h1 (svS_has.2 ?_), ?_, .inl (.inr ⟨b, cap, J, by rw [List.length_set], zb _ _ _, by rw [List.length_set]; exact hc1, by rw [List.length_set]; exact hc2, hc3⟩), hS.h0, hS.h1, hS.h2⟩
  ·rcases svS_has.1 h2 with h2 | h2
   ·exact .inl h2
   ·rcases has_setObj_iff.1 h2 with rfl | h2
    ·exact .inr (kq ho)
    ·exact .inr h2
  ·rw [hG s (Ne.symm hbs)]; exact hS.hs
 have hoffG : ∀ q, offB (.s (.slice (some ⟨b, 0, none⟩) w.U.length cap)) q → (G.setObj b (.cells ((rws untC (w.U.set k u)).flatten ++ J))).obj q = G.obj q := fun q hq => hG q (Ne.symm (hq b _ _ rfl (by omega)))
 generalize G.setObj b _ = G1 at hS' hoffG ⊢
 have hs1 : (F.un (svS G1 s { w with U := w.U.set k u } (.s (.slice (some ⟨b, 0, none⟩) w.U.length cap)) o0 o1 o2 p)).obj s = some (.cells (svC w (.s (.slice (some ⟨b, 0, none⟩) w.U.length cap)) o0 o1 o2 p)) := un_r (qn _ _ _ _ _ _ _ _)
 refine ⟨trivial, ?_⟩
 refine bceq (fun c1 => ?_) (fun c1 => ?_)
 ·refine ADraw.of_sched zd (by rfl) (by rfl) zwn (by rfl) ?_
  refine za (o := (F.un (svS G1 s _ _ o0 o1 o2 p)).obj s) _ hs1 ?_
  refine ⟨ycv hS'.hc hS'.hd (by omega) hok u.id u.pos hp _ (fun F2 h2 h3 => ⟨trivial, ?_⟩), trivial⟩
  have e9 : entP L u = ya L u.id ++ [(u.id, u.pos)] := if_pos c1
  exact ret (h F2 G1 ⟨by rw [e9]; exact h2, h3, hS'.hs, hS'.hu, hS'.h0, hS'.h1, hS'.h2⟩ hoffG)
 ·refine ADraw.of_sched zd (by rfl) (by rfl) zwm (by rfl) ?_
  refine za (o := (F.un (svS G1 s _ _ o0 o1 o2 p)).obj s) _ hs1 ?_
  refine ⟨zym hS'.hc hS'.hd (by omega) hok u.id _ (fun F2 h2 h3 => ⟨trivial, ?_⟩), trivial⟩
  have e9 : entP L u = ya L u.id := if_neg c1
  exact ret (h F2 G1 ⟨by rw [e9]; exact h2, h3, hS'.hs, hS'.hu, hS'.h0, hS'.h1, hS'.h2⟩ hoffG)
theorem zcv {F G : Store} {s p : Nat} {w : Wld} {v : AV} {L : List Ent} {o0 o1 o2 : AV} (hS : StandR F G s p w v L o0 o1 o2) (hos : offB v s) (hr : z7 w.U) (hU : w.U.length ≤ 1000000) (hL : L.length ≤ 1000000) (hok : ∀ e ∈ L, e.2.ok) {i : Nat} (hi : i < w.U.length) (u : Unt) (hid : w.U[i].id = u.id) (hp : u.pos.ok) (R : AV → Store → Prop)
  (h : ∀ F' G' L', StandR F' G' s p { w with U := w.U.set i u } v L' o0 o1 o2 → (∀ q, offB v q → G'.obj q = G.obj q) → L'.length ≤ L.length + 1 → (∀ e ∈ L', e.2.ok) → R (.tup []) (F'.un (svS G' s { w with U := w.U.set i u } v o0 o1 o2 p))) :
  ACalls Tryz.prog 165 [ptr s, .agg (untC u)] (F.un (svS G s w v o0 o1 o2 p)) R :=
 zo5 hS hos hr hU hL hok hi u hid hp R fun F' G' h1 h2 => h F' G' _ h1 h2 (zyd L u) (ycq hok hp)
end Go.Proofs
namespace Go.Proofs
open Go Go.V
set_option maxHeartbeats 1000000 in
theorem zlw {F G : Store} {xw s p : Nat} {w : Wld} {v : AV} {L : List Ent} {o0 o1 o2 : AV} {c : Cmd} {fv : AV} (hW : Work F G xw s p w v L o0 o1 o2 c fv) (hm : MayF w) (hn : ∀ u ∈ w.U, u.pos.ok) (hc : c.U.length ≤ 64) (R : AV → Store → Prop)
  (h : ∀ S', stE w c ≠ 0 → R (int (stE w c)) S') (h0 : stE w c = 0 → ∀ S', Done S' xw s c fv (stW w c) → R (int 0) S') : ACalls Tryz.prog 120 [ptr xw] (F.un (svS G s w v o0 o1 o2 p)) R := by
 have hU := hm.hU
 have hLl := hW.hL
 refine ACalls.of_body (c := cfg 27) zd Tryz.func120 (by rfl) (by rfl) (by rfl) (by rfl) ?_
 refine all_nil ⟨hW.x, hW.s, hW.r⟩ hm.hr (by omega) (by omega) _ (fun he => ?_) (fun he => ?_)
 rotate_left
 ·refine AWp.loop (σ := Unit) ⟨fun x => [(4, .av (int (stE w c))), (13, .av (int 0)), (14, .av (int 0))], fun _ => [], fun x st' => True, fun x => 0⟩ zd ?_ ?_
  ·exact ⟨(), trivial, trivial, ⟨lr_ _, lr_ _, lr_ _, trivial⟩, trivial⟩
  rintro ⟨⟩ st' _
  exact ret (h _ he)
 have hzero := zbj he
 have hhe : stE w c = 0 := he
 refine AWp.loop (σ := Nat × Store × Store × List Ent) ⟨fun x => [(0, .av (ptr xw)), (4, .av (int 0)), (12, .av (lst 10 untC (c.U.map (uAt w)))), (13, .av (int (c.U.length : Nat))), (14, .av (int (x.1 : Nat)))], fun _ => [],
  fun x st' => x.1 ≤ c.U.length ∧ st' = x.2.1.un (svS x.2.2.1 s { w with U := setU (c.U.take x.1) rstU w.U } v o0 o1 o2 p) ∧ StandR x.2.1 x.2.2.1 s p { w with U := setU (c.U.take x.1) rstU w.U } v x.2.2.2 o0 o1 o2 ∧ (∀ q, offB v q → x.2.2.1.obj q = G.obj q) ∧ x.2.2.2.length ≤ L.length + x.1 ∧ ∀ e ∈ x.2.2.2, e.2.ok, fun x => c.U.length - x.1⟩ zd ?_ ?_
 ·refine ⟨(0, F, G, L), trivial, ⟨Nat.zero_le _, ?_, ?_, fun _ _ => rfl, by dsimp only; omega, jg hW.hF hn⟩, ⟨lr_ _, lr_ _, lr_ _, ?_, lr_ _, trivial⟩, trivial⟩
  ·dsimp only
   rw [List.take_zero, zcu]
  ·dsimp only
   rw [List.take_zero, zcu]
   exact hW.S
  ·have e : (c.U.length : Int) = ((rws untC (c.U.map (uAt w))).length : Int) := by rw [zh, List.length_map]
   rw [e]; exact lr_ _
 rintro ⟨k, F1, G1, L1⟩ st' ⟨hk, rfl, hS, hG, hL, hok⟩
 dsimp only at hk hS hG hL hok ⊢
 have hx : (F1.un (svS G1 s { w with U := setU (c.U.take k) rstU w.U } v o0 o1 o2 p)).obj xw = some (.cells (wkC s c fv)) := un_r (by
  show (G1.setObj s _).obj xw = _
  rw [zg hW.ne, hG xw hW.ox]
  exact hW.hx)
 refine bcd (fun h1 => ?_) (fun h1 => ?_)
 rotate_left
 ·have : k = c.U.length := by omega
  subst this
  rw [List.take_length] at hS hx ⊢
  exact ret (h0 hhe _ ⟨v, o0, o1, o2, p, hx, un_r (qn _ _ _ _ _ _ _ _), (kj hS.hs hS.hu).un⟩)
 have hlt : k < c.U.length := by omega
 obtain ⟨i, hi, hf, hid, hu, how, hin⟩ := wg (hzero c.U[k] (List.getElem_mem hlt))
 have hlm : k < (c.U.map (uAt w)).length := by rw [List.length_map]; exact hlt
 refine ⟨k, rfl, za _ (zj hlm) ?_⟩
 have hgm : (c.U.map (uAt w))[k] = w.U[i] := by rw [List.getElem_map, hu]
 rw [hgm]
 refine ADraw.of_sched zd (by rfl) (by rfl) zxb (by rfl) ?_
 refine za (o := (F1.un (svS G1 s _ v o0 o1 o2 p)).obj xw) _ hx ?_
 refine ⟨zdl w.U[i] _ _ ⟨(by repeat (first | exact trivial | refine ⟨rfl, ?_⟩ | refine ⟨za (o := (F1.un (svS G1 s _ v o0 o1 o2 p)).obj xw) _ hx rfl, ?_⟩)), ?_⟩, trivial⟩
 have hi2 : i < (setU (c.U.take k) rstU w.U).length := by rw [qt]; exact hi
 refine ⟨zcv hS hW.os (ze0 (g := rstU) (fun _ => rfl) hm.hr) (by rw [qt]; omega) (by omega) hok hi2 (rstU w.U[i]) (zfx (g := rstU) (fun _ => rfl) hi) (hn w.U[i] (List.getElem_mem hi)) _ (fun F2 G2 L2 g1 g2 g3 g4 => ⟨trivial, ?_⟩), trivial⟩
 have e5 : c.U.take k ++ [w.U[i].id] = c.U.take (k + 1) := by rw [List.take_succ_eq_append_getElem hlt, hid]
 dsimp only at g1 ⊢
 rw [zk3 hm.hr hi, e5] at g1 ⊢
 refine in64 (by omega) ?_
 refine ⟨(k + 1, F2, G2, L2), ?_, ⟨by dsimp only; omega, rfl, g1, fun q hq => (g2 q hq).trans (hG q hq), by dsimp only; omega, g4⟩, ⟨lr_ _, lr_ _, lr_ _, lr_ _, lr_ _, trivial⟩, trivial⟩
 show c.U.length - (k + 1) < c.U.length - k
 omega
theorem yer : vg 3 stE stW := by
 intro F G xw s p w v L o0 o1 o2 c hW hm hn hc hp hk R h h0
 have hx := hW.x (F' := F) (q0 := o0) (q1 := o1) (q2 := o2)
 have hok := (Cmd.ok3 hk).1 hc.1
 refine ACalls.of_body (c := cfg 34) zd Tryz.func79 (by rfl) (by rfl) (by rfl) (by rfl) ?_
 refine za (o := (F.un (svS G s w v o0 o1 o2 p)).obj xw) _ hx ?_
 refine bceq (fun c1 => absurd (hk.symm.trans c1) (by decide)) (fun _ => ?_)
 refine bceq (fun c1 => absurd (hk.symm.trans c1) (by decide)) (fun _ => ?_)
 refine bceq (fun _ => ?_) (fun c1 => absurd hk c1)
 refine zlw hW (mayF hm) hn hok.1.2 _ (fun S' he => ret (h S' he)) (fun he S' hd => ret (h0 he S' hd))
end Go.Proofs
namespace Go.Proofs
open Go Go.V
end Go.Proofs
namespace Go.Proofs
open Go Go.V
theorem zli {S : Store} {v : AV} {U : List Unt} (hv : RowsQ 10 untC S v U) (hl : U.length ≤ 1000000) (id : Int) (R : AV → Store → Prop) (h : R (ints (inOf U id)) S) : ACalls Tryz.prog 171 [v, int id] S R := by
 obtain ⟨oa, cap, e, hget⟩ := hv.form
 subst e
 refine ACalls.of_body (c := cfg 24) zd Tryz.func171 (by rfl) (by rfl) (by rfl) (by rfl) ?_
 refine AWp.loop (σ := Nat × AV) ⟨fun x => [(1, .av (int id)), (4, .av x.2), (7, .av (.s (.slice oa U.length cap))), (8, .av (int (U.length : Nat))), (9, .av (int (x.1 : Nat)))], fun _ => [],
  fun x st' => x.1 ≤ U.length ∧ App 1 S x.2 (rws intC (inOf (U.take x.1) id)) st', fun x => U.length - x.1⟩ zd ?_ ?_
 ·exact ⟨(0, _), trivial, ⟨Nat.zero_le _, App.start 1 S⟩, ⟨lr_ _, lr_ _, lr_ _, lr_ _, lr_ _, trivial⟩, trivial⟩
 rintro ⟨i, v2⟩ st' ⟨hi, hap⟩
 dsimp only at hi hap ⊢
 refine bcd (fun h1 => ?_) (fun h1 => ?_)
 rotate_left
 ·have : i = U.length := by omega
  subst this
  rw [List.take_length] at hap
  exact ⟨_, _, hap.le, hap.has, h⟩
 have hlt : i < U.length := by omega
 have hs := zh7 hlt id
 have hl1 : (inOf (U.take i) id).length ≤ 1000000 := by
  have h1 := zga (l := U) i id
  have h2 : (inOf U id).length ≤ U.length := by unfold inOf; rw [List.length_map]; exact List.length_filter_le _ _
  omega
 obtain ⟨b, J, e2, hob⟩ := hget i hlt
 have hob : st'.obj b = some (.cells ((rws untC U).flatten ++ J)) := by rw [hap.obj]; exact hob
 subst e2
 refine ⟨i, rfl, hlt, ?_⟩
 refine za (o := st'.obj b) _ hob ?_
 refine vt (i := ti50) (row := untC U[i]) rfl rfl (vr qb hlt) ?_
 refine bceq (fun c1 => ?_) (fun c1 => ?_)
 ·rw [if_pos c1] at hs
  refine ⟨by decide, ?_⟩
  refine qh (ie := ti3) (rows' := [intC U[i].id]) hap ?_ ?_ ⟨?_, ?_⟩ (fun v3 st3 ha3 => ?_)
  ·rfl
  ·rfl
  ·simp only [zh, List.length_singleton, ti3]; omega
  ·simp only [zh, List.length_singleton]; omega
  refine in64 (by omega) ?_
  refine ⟨(i + 1, v3), ?_, ⟨by dsimp only; omega, ?_⟩, ⟨lr_ _, lr_ _, lr_ _, lr_ _, lr_ _, trivial⟩, trivial⟩
  ·show U.length - (i + 1) < U.length - i
   omega
  ·dsimp only
   rw [hs]
   unfold rws at ha3 ⊢
   rw [List.map_append]
   exact ha3
 ·rw [if_neg c1, List.append_nil] at hs
  refine in64 (by omega) ?_
  refine ⟨(i + 1, v2), ?_, ⟨by dsimp only; omega, ?_⟩, ⟨lr_ _, lr_ _, lr_ _, lr_ _, lr_ _, trivial⟩, trivial⟩
  ·show U.length - (i + 1) < U.length - i
   omega
  ·dsimp only
   rw [hs]
   exact hap
theorem yd3 {S : Store} {xw s p : Nat} {w : Wld} {v o0 o1 o2 : AV} {c : Cmd} {fv : AV} (ha : AtW S xw s p w v o0 o1 o2 c fv) (hr : z7 w.U) (hU : w.U.length ≤ 1000000) (hc : c.U.length ≤ 1000000) (fn : FuncId) (cap : List AV) (more : Unt → Int)
  (hf : ∀ id, askE w c.P id = 0 → ∀ st', (∀ q, st'.obj q = S.obj q) → ∀ R : AV → Store → Prop, R (int (more (uAt w id))) st' → ACalls Tryz.prog fn ([.agg (untC (uAt w id))] ++ cap) st' R) (E : Int → Int) (hE : ∀ id, E id = if askE w c.P id = 0 then more (uAt w id) else askE w c.P id) (R : AV → Store → Prop)
  (h : allE E c.U = 0 → R (.tup [lst 10 untC (c.U.map (uAt w)), int 0]) S) (h' : allE E c.U ≠ 0 → R (.tup [.s (.slice none 0 0), int (allE E c.U)]) S) : ACalls Tryz.prog 163 [ptr xw, .clos fn cap] S R := by
 refine ACalls.of_body (c := cfg 44) zd Tryz.func163 (by rfl) (by rfl) (by rfl) (by rfl) ?_
 refine za (o := S.obj xw) _ ha.hx ?_
 refine AWp.loop (σ := Nat × AV) ⟨fun x => [(0, .av (ptr xw)), (1, .av (.clos fn cap)), (4, .av x.2), (14, .av (ints c.U)), (15, .av (int (c.U.length : Nat))), (16, .av (int (x.1 : Nat)))], fun _ => [],
  fun x st' => x.1 ≤ c.U.length ∧ App 10 S x.2 (rws untC ((c.U.take x.1).map (uAt w))) st' ∧ ∀ j, (hj : j < c.U.length) → j < x.1 → E c.U[j] = 0, fun x => c.U.length - x.1⟩ zd ?_ ?_
 ·refine ⟨(0, _), trivial, ⟨Nat.zero_le _, App.start 10 S, fun j _ hj => by omega⟩, ⟨lr_ _, lr_ _, lr_ _, lr_ _, ?_, lr_ _, trivial⟩, trivial⟩
  rw [← zh (f := intC) c.U]; exact lr_ _
 rintro ⟨i, v2⟩ st' ⟨hi, hap, hall⟩
 dsimp only at hi hap hall ⊢
 refine bcd (fun h1 => ?_) (fun h1 => ?_)
 rotate_left
 ·have : i = c.U.length := by omega
  subst this
  rw [List.take_length] at hap
  exact ⟨_, _, AV.le_tupL (xs := [v2, int 0]) (ys := [lst 10 untC (c.U.map (uAt w)), int 0]) ⟨AV.le_trans hap.le (ar_ _), ar_ _, trivial⟩, hap.has, h (zeb fun j hj => hall j hj hj)⟩
 have hlt : i < c.U.length := by omega
 have hEi := hE c.U[i]
 have ha' : AtW st' xw s p w v o0 o1 o2 c fv := ⟨by rw [hap.obj]; exact ha.hx, by rw [hap.obj]; exact ha.hs, ha.hr.sub fun _ _ _ _ => by rw [hap.obj]⟩
 have bad : E c.U[i] ≠ 0 → R (.tup [.s (.slice none 0 0), int (E c.U[i])]) S := fun hne => by
  have e := zea hlt hall hne
  have := h' (by rw [e]; exact hne)
  rw [e] at this
  exact this
 refine ⟨i, rfl, za _ (zj hlt) ?_⟩
 refine zgv ha' hr hU c.U[i] _ ?_
 refine bceq (fun c1 => ?_) (fun c1 => ?_)
 rotate_left
 ·rw [if_neg c1] at hEi
  rw [hEi] at bad
  refine bcne (fun c2 => ?_) (fun c2 => absurd c2 c1)
  exact ⟨_, _, ar_ _, hap.has, bad c1⟩
 rw [if_pos c1] at hEi
 refine hf c.U[i] c1 st' (fun q => by rw [hap.obj]) _ ?_
 rw [hEi] at bad
 refine bcne (fun c2 => ?_) (fun c2 => ?_)
 ·exact ⟨_, _, ar_ _, hap.has, bad c2⟩
 rw [c2] at hEi
 refine ⟨by decide, ?_⟩
 refine qh (ie := ti50) (rows' := [untC (uAt w c.U[i])]) hap ?_ ?_ ⟨?_, ?_⟩ (fun v3 st3 ha3 => ?_)
 ·rfl
 ·rfl
 ·simp only [zh, List.length_map, List.length_take, List.length_singleton, ti50]; omega
 ·simp only [zh, List.length_map, List.length_take, List.length_singleton]; omega
 refine in64 (by omega) ?_
 refine ⟨(i + 1, v3), ?_, ⟨by dsimp only; omega, ?_, fun j hj hji => ?_⟩, ⟨lr_ _, lr_ _, lr_ _, lr_ _, lr_ _, lr_ _, trivial⟩, trivial⟩
 ·show c.U.length - (i + 1) < c.U.length - i
  omega
 ·dsimp only
  rw [List.take_succ_eq_append_getElem hlt, List.map_append]
  unfold rws at ha3 ⊢
  rw [List.map_append]
  exact ha3
 ·by_cases e : j = i
  ·subst e; exact hEi
  ·exact hall j hj (by dsimp only at hji; omega)
theorem zck {S : Store} {xw s p : Nat} {w : Wld} {v o0 o1 o2 : AV} {c : Cmd} {fv : AV} (ha : AtW S xw s p w v o0 o1 o2 c fv) (hr : z7 w.U) (hU : w.U.length ≤ 1000000) (R : AV → Store → Prop) (h : R (.tup [.agg (untC (uAt w c.N)), int (carE w c.P c.N)]) S) : ACalls Tryz.prog 170 [ptr xw] S R := by
 unfold carE at h
 refine ACalls.of_body (c := cfg 27) zd Tryz.func170 (by rfl) (by rfl) (by rfl) (by rfl) ?_
 refine za (o := S.obj xw) _ ha.hx ?_
 refine zgv ha hr hU c.N _ ?_
 refine bceq (fun c1 => ?_) (fun c1 => ?_)
 ·rw [if_pos c1] at h
  refine y4 _ _ _ ?_
  refine bceq (fun c2 => ?_) (fun c2 => ?_)
  ·rw [if_pos c2] at h
   exact ret h
  ·rw [if_neg c2] at h
   rw [← c1] at h
   exact ret h
 ·rw [if_neg c1] at h
  exact ret h
theorem zj3 (x u : Unt) (hx : x.pos.ok) (hu : u.pos.ok) (pb : Nat) (st : Store) (hb : st.obj pb = some (.cells (untC x))) (R : AV → Store → Prop) (h : R (int (zpm x u)) st) : ACalls Tryz.prog 172 ([.agg (untC u)] ++ [ptr pb]) st R := by
 unfold zpm at h
 refine ACalls.of_body (c := cfg 16) zd Tryz.func172 (by rfl) (by rfl) (by rfl) (by rfl) ?_
 refine y4 _ _ _ ?_
 refine bcd (fun c1 => ?_) (fun c1 => ?_)
 ·rw [if_pos c1] at h
  exact ret h
 rw [if_neg c1] at h
 refine za (o := st.obj pb) _ hb ?_
 refine zll u.pos x.pos hu hx _ _ ?_
 refine bcd (fun c2 => ?_) (fun c2 => ?_)
 ·rw [if_pos c2] at h
  exact ret h
 ·rw [if_neg c2] at h
  exact ret h
end Go.Proofs
namespace Go.Proofs
open Go Go.V
/-- A box more. -/
theorem Work.add {F G : Store} {xw s p : Nat} {w : Wld} {v : AV} {L : List Ent} {o0 o1 o2 : AV} {c : Cmd} {fv : AV} (h : Work F G xw s p w v L o0 o1 o2 c fv) {pb : Nat} (hpb : Fresh (F.un (svS G s w v o0 o1 o2 p)) pb) (z : AObj) :
  Work F (G.setObj pb z) xw s p w v L o0 o1 o2 c fv ∧ (F.un (svS G s w v o0 o1 o2 p)).setObj pb z = F.un (svS (G.setObj pb z) s w v o0 o1 o2 p) ∧ offB v pb ∧ pb ≠ s := by
 have hx1 : ¬ F.has pb ∧ ¬ (svS G s w v o0 o1 o2 p).has pb := by
  have := fresh_iff.1 hpb
  exact ⟨fun h => this (un_has.2 (.inl h)), fun h => this (un_has.2 (.inr h))⟩
 have hne : pb ≠ s := fun e => hx1.2 (svS_has.2 (.inl e))
 have hxN : ¬ G.has pb := fun h => hx1.2 (svS_has.2 (.inr h))
 have hxw : pb ≠ xw := fun e => hxN (by rw [e]; exact kq h.hx)
 have off := wq h.S.hu (vx hxN).1
 refine ⟨⟨⟨h.S.hc, fun i h1 h2 => ?_, ?_, h.S.hu.set off _, h.S.h0, h.S.h1, h.S.h2⟩, ?_, h.ox, h.os, h.hL, h.hF⟩, ?_, off, hne⟩
 ·rcases svS_has.1 h2 with rfl | h2
  ·exact h.S.hd _ h1 (svS_has.2 (.inl rfl))
  ·by_cases hi : i = pb
   ·subst hi; exact hx1.1 h1
   ·refine h.S.hd _ h1 (svS_has.2 (.inr ?_))
    rcases h2 with h2 | h2
    ·rw [zg hi] at h2; exact .inl h2
    ·exact .inr h2
 ·rw [zg (Ne.symm hne)]; exact h.S.hs
 ·rw [zg (Ne.symm hxw)]; exact h.hx
 ·rw [zo]
  unfold svS
  rw [km hne]
theorem yel {w : Wld} {c : Cmd} (h : carE w c.P c.N ≠ 0) : ldE w c = carE w c.P c.N := by unfold ldE; rw [if_neg h]
theorem yek {w : Wld} {c : Cmd} (h : carE w c.P c.N = 0) (h2 : allE (ldA w c.P c.N) c.U ≠ 0) : ldE w c = allE (ldA w c.P c.N) c.U := by unfold ldE; rw [if_pos h, if_neg h2]
theorem yej {w : Wld} {c : Cmd} (h : carE w c.P c.N = 0) (h2 : allE (ldA w c.P c.N) c.U = 0) : ldE w c = if jx (uAt w c.N).kind < ((inOf w.U c.N).length : Int) + (c.U.length : Int) then 4 else 0 := by unfold ldE; rw [if_pos h, if_pos h2]
set_option maxHeartbeats 2000000 in
set_option maxRecDepth 20000 in
theorem zlz {F G : Store} {xw s p : Nat} {w : Wld} {v : AV} {L : List Ent} {o0 o1 o2 : AV} {c : Cmd} {fv : AV} (hW : Work F G xw s p w v L o0 o1 o2 c fv) (hmp : mayP w) (hn : ∀ u ∈ w.U, u.pos.ok) (hc : c.U.length ≤ 64) (hN : 1 ≤ c.N) (R : AV → Store → Prop)
  (h : ∀ S', ldE w c ≠ 0 → R (int (ldE w c)) S') (h0 : ldE w c = 0 → ∀ S', Done S' xw s c fv (ldW w c) → R (int 0) S') : ACalls Tryz.prog 123 [ptr xw] (F.un (svS G s w v o0 o1 o2 p)) R := by
 have hm := mayF hmp
 have hU := hm.hU
 have hLl := hW.hL
 obtain ⟨oa, cap, e, hget⟩ := hW.S.hu.form
 subst e
 refine ACalls.of_body (c := cfg 65 [3] []) zd Tryz.func123 (by rfl) (by rfl) (by rfl) (by rfl) ?_
 refine zck ⟨hW.x, hW.s, hW.r⟩ hm.hr (by omega) _ ?_
 intro pb hpb
 refine jl (i := ti50) (v := .agg (untC (uAt w c.N))) (xs := untC (uAt w c.N)) (b := pb) (o := 0) (l := _) rfl rfl rfl (zb _ _ _) (show 0 + 10 ≤ 10 by decide) ?_
 obtain ⟨hW1, e1, off1, hps⟩ := hW.add hpb (.cells (untC (uAt w c.N)))
 have e3 : ∀ l : List AV, l.length = 10 → zn l 0 (untC (uAt w c.N)) = untC (uAt w c.N) := fun l hl => by
  unfold zn
  rw [List.take_zero, List.nil_append, Nat.zero_add, qb, List.drop_of_length_le (by omega), List.append_nil]
 rw [zk, e3 _ (by simp [ti50]), e1]
 have hx := hW1.x (F' := F) (q0 := o0) (q1 := o1) (q2 := o2)
 have hs := hW1.s (F' := F) (q0 := o0) (q1 := o1) (q2 := o2)
 have hr := hW1.r (F' := F) (q0 := o0) (q1 := o1) (q2 := o2)
 have hgb : (G.setObj pb (.cells (untC (uAt w c.N)))).obj pb = some (.cells (untC (uAt w c.N))) := zb _ _ _
 generalize G.setObj pb (.cells (untC (uAt w c.N))) = G0 at *
 have hb : (F.un (svS G0 s w (.s (.slice oa w.U.length cap)) o0 o1 o2 p)).obj pb = some (.cells (untC (uAt w c.N))) := un_r (by
  show (G0.setObj s _).obj pb = _
  rw [zg hps]; exact hgb)
 refine bcne (fun c1 => ?_) (fun c1 => ?_)
 ·have := yel c1
  rw [this] at h
  exact ret (h _ c1)
 obtain ⟨hask, hroom⟩ := zix c1
 obtain ⟨ix, hix, hfx, hidx, hux, _, _⟩ := wg hask
 have hrm := zp6 hmp hix (by omega)
 rw [hidx] at hrm
 rw [hux] at hroom hb
 have hkb := zdt w.U[ix].kind
 have hin : (inOf w.U c.N).length ≤ w.U.length := by unfold inOf; rw [List.length_map]; exact List.length_filter_le _ _
 rw [hux]
 refine ADraw.of_sched zd (by rfl) (by rfl) zw5 (by rfl) ?_
 refine za (o := (F.un (svS G0 s w _ o0 o1 o2 p)).obj pb) _ hb ?_
 refine za (o := (F.un (svS G0 s w _ o0 o1 o2 p)).obj xw) _ hx ?_
 refine za (o := (F.un (svS G0 s w _ o0 o1 o2 p)).obj s) _ hs ?_
 refine za (o := (F.un (svS G0 s w _ o0 o1 o2 p)).obj pb) _ hb ?_
 refine ⟨y4 _ _ _ ⟨(by repeat (first | exact trivial | refine ⟨rfl, ?_⟩ | refine ⟨za (o := (F.un (svS G0 s w _ o0 o1 o2 p)).obj pb) _ hb rfl, ?_⟩ | refine ⟨za (o := (F.un (svS G0 s w _ o0 o1 o2 p)).obj xw) _ hx rfl, ?_⟩ | refine ⟨za (o := (F.un (svS G0 s w _ o0 o1 o2 p)).obj s) _ hs rfl, ?_⟩)), ?_⟩, trivial⟩
 rw [hidx]
 refine ⟨zli hr (by omega) c.N _ ⟨(by repeat (first | exact trivial | refine ⟨rfl, ?_⟩ | refine ⟨optR (optR (optR (za _ (zb _ _ _) rfl))), ?_⟩)), ?_⟩, trivial⟩
 refine in64 (by rw [zh]; omega) ?_
 refine ⟨⟨trivial, ?_⟩, trivial⟩
 rw [zh]
 refine yd3 ⟨hx, hs, hr⟩ hm.hr (by omega) (by omega) _ _ (zpm w.U[ix]) (fun id hid st' ho R h => zj3 w.U[ix] (uAt w id) (hn _ (List.getElem_mem hix)) (zy0 hn id) pb st' (by rw [ho]; exact hb) R h) (ldA w c.P c.N) (fun id => by unfold ldA; rw [hux]) _ (fun he => ?_) (fun he => ?_)
 rotate_left
 ·have e5 := yek c1 he
  refine bcd (fun h1 => absurd h1 (by omega)) (fun _ => ?_)
  refine AWp.loop (σ := Unit) ⟨fun x => [(4, .av (int (ldE w c))), (45, .av (int 0)), (46, .av (int 0))], fun _ => [], fun x st' => True, fun x => 0⟩ zd ?_ ?_
  ·refine ⟨(), trivial, trivial, ⟨?_, lr_ _, lr_ _, trivial⟩, trivial⟩
   rw [e5]; exact lr_ _
  rintro ⟨⟩ st' _
  exact ret (h _ (by rw [e5]; exact he))
 have hzero := zbj he
 have e5 := yej c1 he
 rw [hux] at e5
 refine bcd (fun h1 => ?_) (fun h1 => ?_)
 ·rw [zh, List.length_map] at h1
  rw [if_pos (by omega)] at e5
  rw [e5] at h
  exact ret (h _ (by decide))
 rw [zh, List.length_map] at h1
 rw [if_neg (by omega)] at e5
 refine AWp.loop (σ := Nat × Store × Store × List Ent) ⟨fun x => [(0, .av (ptr xw)), (3, .av (ptr pb)), (4, .av (int 0)), (44, .av (lst 10 untC (c.U.map (uAt w)))), (45, .av (int (c.U.length : Nat))), (46, .av (int (x.1 : Nat)))], fun _ => [],
  fun x st' => x.1 ≤ c.U.length ∧ st' = x.2.1.un (svS x.2.2.1 s { w with U := setU (c.U.take x.1) (ldU c.N) w.U } (.s (.slice oa w.U.length cap)) o0 o1 o2 p) ∧ StandR x.2.1 x.2.2.1 s p { w with U := setU (c.U.take x.1) (ldU c.N) w.U } (.s (.slice oa w.U.length cap)) x.2.2.2 o0 o1 o2 ∧ (∀ q, offB (.s (.slice oa w.U.length cap)) q → x.2.2.1.obj q = G0.obj q) ∧ x.2.2.2.length ≤ L.length + x.1 ∧ ∀ e ∈ x.2.2.2, e.2.ok, fun x => c.U.length - x.1⟩ zd ?_ ?_
 ·refine ⟨(0, F, G0, L), trivial, ⟨Nat.zero_le _, ?_, ?_, fun _ _ => rfl, by dsimp only; omega, jg hW.hF hn⟩, ⟨lr_ _, lr_ _, lr_ _, lr_ _, ?_, lr_ _, trivial⟩, trivial⟩
  ·dsimp only
   rw [List.take_zero, zcu]
  ·dsimp only
   rw [List.take_zero, zcu]
   exact hW1.S
  ·have e : (c.U.length : Int) = ((rws untC (c.U.map (uAt w))).length : Int) := by rw [zh, List.length_map]
   rw [e]; exact lr_ _
 rintro ⟨k, F1, G1, L1⟩ st' ⟨hk, rfl, hS, hG, hL, hok⟩
 dsimp only at hk hS hG hL hok ⊢
 have hx2 : (F1.un (svS G1 s { w with U := setU (c.U.take k) (ldU c.N) w.U } (.s (.slice oa w.U.length cap)) o0 o1 o2 p)).obj xw = some (.cells (wkC s c fv)) := un_r (by
  show (G1.setObj s _).obj xw = _
  rw [zg hW1.ne, hG xw hW1.ox]
  exact hW1.hx)
 have hb2 : (F1.un (svS G1 s { w with U := setU (c.U.take k) (ldU c.N) w.U } (.s (.slice oa w.U.length cap)) o0 o1 o2 p)).obj pb = some (.cells (untC w.U[ix])) := un_r (by
  show (G1.setObj s _).obj pb = _
  rw [zg hps, hG pb off1, hgb, hux])
 refine bcd (fun h1 => ?_) (fun h1 => ?_)
 rotate_left
 ·have : k = c.U.length := by omega
  subst this
  rw [List.take_length] at hS hx2 ⊢
  exact ret (h0 e5 _ ⟨_, o0, o1, o2, p, hx2, un_r (qn _ _ _ _ _ _ _ _), (kj hS.hs hS.hu).un⟩)
 have hlt : k < c.U.length := by omega
 obtain ⟨i, hi, hf, hid, hu, how, hin⟩ := wg (zx3 (hzero c.U[k] (List.getElem_mem hlt))).1
 have hlm : k < (c.U.map (uAt w)).length := by rw [List.length_map]; exact hlt
 refine ⟨k, rfl, za _ (zj hlm) ?_⟩
 have hgm : (c.U.map (uAt w))[k] = w.U[i] := by rw [List.getElem_map, hu]
 rw [hgm]
 refine zdl w.U[i] _ _ ?_
 refine za (o := (F1.un (svS G1 s _ _ o0 o1 o2 p)).obj pb) _ hb2 ?_
 refine ADraw.of_sched zd (by rfl) (by rfl) zol (by rfl) ?_
 refine za (o := (F1.un (svS G1 s _ _ o0 o1 o2 p)).obj xw) _ hx2 ?_
 have hi2 : i < (setU (c.U.take k) (ldU c.N) w.U).length := by rw [qt]; exact hi
 refine ⟨zcv hS hW1.os (ze0 (g := ldU c.N) (fun _ => rfl) hm.hr) (by rw [qt]; omega) (by omega) hok hi2 (ldU w.U[ix].id w.U[i]) (zfx (g := ldU c.N) (fun _ => rfl) hi) (show Vc.ok (0, 0) by unfold Vc.ok yd; decide) _ (fun F2 G2 L2 g1 g2 g3 g4 => ⟨trivial, ?_⟩), trivial⟩
 have e6 : c.U.take k ++ [w.U[i].id] = c.U.take (k + 1) := by rw [List.take_succ_eq_append_getElem hlt, hid]
 dsimp only at g1 ⊢
 rw [hidx, zk3 hm.hr hi, e6] at g1 ⊢
 refine in64 (by omega) ?_
 refine ⟨(k + 1, F2, G2, L2), ?_, ⟨by dsimp only; omega, rfl, g1, fun q hq => (g2 q hq).trans (hG q hq), by dsimp only; omega, g4⟩, ⟨lr_ _, lr_ _, lr_ _, lr_ _, lr_ _, lr_ _, trivial⟩, trivial⟩
 show c.U.length - (k + 1) < c.U.length - k
 omega
theorem yeo : vg 6 ldE ldW := by
 intro F G xw s p w v L o0 o1 o2 c hW hm hn hc hp hk R h h0
 have hx := hW.x (F' := F) (q0 := o0) (q1 := o1) (q2 := o2)
 have hok := (Cmd.ok6 hk).1 hc.1
 refine ACalls.of_body (c := cfg 34) zd Tryz.func79 (by rfl) (by rfl) (by rfl) (by rfl) ?_
 refine za (o := (F.un (svS G s w v o0 o1 o2 p)).obj xw) _ hx ?_
 refine bceq (fun c1 => absurd (hk.symm.trans c1) (by decide)) (fun _ => ?_)
 refine bceq (fun c1 => absurd (hk.symm.trans c1) (by decide)) (fun _ => ?_)
 refine bceq (fun c1 => absurd (hk.symm.trans c1) (by decide)) (fun _ => ?_)
 refine bceq (fun c1 => absurd (hk.symm.trans c1) (by decide)) (fun _ => ?_)
 refine bceq (fun c1 => absurd (hk.symm.trans c1) (by decide)) (fun _ => ?_)
 refine bceq (fun _ => ?_) (fun c1 => absurd hk c1)
 refine zlz hW hm hn hok.1.1.2 hok.2.1 _ (fun S' he => ret (h S' he)) (fun he S' hd => ret (h0 he S' hd))
end Go.Proofs
namespace Go.Proofs
open Go Go.V
end Go.Proofs
