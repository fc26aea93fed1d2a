/- The ground on which laws of thronglaw24 are proved: contracts of functions and plain lemmas; no condition beyond the row's own. -/
import Derived.KernelRfl
import Derived.Test.YtbemejeejgpkaaaGreatVJ
import Derived.Test.YtbemejeejgpkaaaGreatVK
import Derived.Test.YtbemejeejgpkaaaGreatSH
import Derived.Test.YtbemejeejgpkaaaGreatSI
import Derived.Test.YtbemejeejgpkaaaGreatVH
import Derived.Test.YtbemejeejgpkaaaGreatSG
import Derived.Test.YtbemejeejgpkaaaGreatSF
set_option linter.unusedSimpArgs false
set_option linter.unusedVariables false
namespace Go.Proofs
open Go Go.V
set_option maxRecDepth 4000
/-- A mover: a stand, and who tells ways. -/
def za3 : AV := .s (.iface 147 (.agg #[]))
structure Mover (F G : Store) (mb s p : Nat) (w : Wld) (v : AV) (L : List Ent) (o0 o1 o2 : AV) : Prop where
 S : StandR F G s p w v L o0 o1 o2
 hx : G.obj mb = some (.cells [ptr s, za3])
 ox : offB v mb
 os : offB v s
 hL : L.length <= w.U.length
 hF : k5 w L
theorem Mover.ne {F G : Store} {mb s p : Nat} {w : Wld} {v : AV} {L : List Ent} {o0 o1 o2 : AV} (h : Mover F G mb s p w v L o0 o1 o2) : mb ≠ s := fun e => by
 have := h.S.hs
 rw [<- e, h.hx] at this
 cases this
theorem Mover.m {F F' G : Store} {mb s p : Nat} {w w' : Wld} {v : AV} {L : List Ent} {o0 o1 o2 q0 q1 q2 : AV} (h : Mover F G mb s p w v L o0 o1 o2) : (F'.un (svS G s w' v q0 q1 q2 p)).obj mb = some (.cells [ptr s, za3]) :=
 un_r (by
  show (G.setObj s _).obj mb = _
  rw [zf h.ne]
  exact h.hx)
theorem Mover.s {F F' G : Store} {mb s p : Nat} {w : Wld} {v : AV} {L : List Ent} {o0 o1 o2 q0 q1 q2 : AV} (h : Mover F G mb s p w v L o0 o1 o2) : (F'.un (svS G s w v q0 q1 q2 p)).obj s = some (.cells (svC w v q0 q1 q2 p)) := un_r (j6 _ _ _ _ _ _ _ _)
/-- After a unit is put. -/
theorem Mover.put {F G F' G' : Store} {mb s p i : Nat} {w : Wld} {v : AV} {L : List Ent} {o0 o1 o2 q0 q1 q2 : AV} (h : Mover F G mb s p w v L o0 o1 o2) (hr : yf w.U) (hi : i < w.U.length) {u : Unt} (hid : w.U[i].id = u.id) (g1 : StandR F' G' s p { w with U := w.U.set i u } v (entP L u) q0 q1 q2)
  (g2 : ∀ q, offB v q -> G'.obj q = G.obj q) : Mover F' G' mb s p (putU w u) v (entP L u) q0 q1 q2 := by
 rw [qe hr hi hid.symm]
 have hF3 := zol h.hF hr hi (u := u) hid
 refine ⟨g1, by rw [g2 mb h.ox]; exact h.hx, h.ox, h.os, ?_, hF3⟩
 obtain ⟨_, _, _, _, _, _, _, _, inv⟩ := g1.hc
 exact zom inv.n1 hF3
theorem zc4 {F G : Store} {mb s p : Nat} {w : Wld} {v : AV} {L : List Ent} {o0 o1 o2 : AV} (hW : Mover F G mb s p w v L o0 o1 o2) (hm : MayF w) (hn : ∀ u ∈ w.U, u.pos.ok) {i : Nat} (hi : i < w.U.length) (u : Unt) (hid : w.U[i].id = u.id) (hp : u.pos.ok) (R : AV -> Store -> Prop)
  (h : ∀ F' G' L', Mover F' G' mb s p (putU w u) v L' o0 o1 o2 -> R (.tup []) (F'.un (svS G' s (putU w u) v o0 o1 o2 p))) :
  ACalls Tryz.prog 111 [ptr s, .agg (untC u)] (F.un (svS G s w v o0 o1 o2 p)) R := by
 have hU := hm.hU
 refine ynu hW.S hW.os hm.hr (by omega) (by have := hW.hL; omega) (zdw hW.hF hn) hi u hid hp R fun F' G' g1 g2 => ?_
 have e := qe (w := w) hm.hr hi hid.symm
 have := h F' G' _ (hW.put hm.hr hi hid g1 g2)
 rw [e] at this
 exact this
set_option maxHeartbeats 2000000 in
set_option maxRecDepth 20000 in
theorem zpy {F G : Store} {mb s p : Nat} {w : Wld} {v : AV} {L : List Ent} {o0 o1 o2 : AV} (hW : Mover F G mb s p w v L o0 o1 o2) (hm : MayF w) (hn : ∀ u ∈ w.U, u.pos.ok) {i : Nat} (hi : i < w.U.length) (d : Vc) (hd : d.ok) (R : AV -> Store -> Prop)
  (h : ∀ F' G' L' q0 q1 q2, Mover F' G' mb s p (tryW w w.U[i] d) v L' q0 q1 q2 -> R (int (tryK w w.U[i] d)) (F'.un (svS G' s (tryW w w.U[i] d) v q0 q1 q2 p))) :
  ACalls Tryz.prog 64 [ptr mb, .agg (untC w.U[i]), .agg (vecC d)] (F.un (svS G s w v o0 o1 o2 p)) R := by
 have hU := hm.hU
 have hB := hm.hB
 have hnd := yjh hd
 have hpk := hn _ (List.getElem_mem hi)
 unfold tryW tryK at h
 have hhalf := fun k => zwx hnd k
 have hzero := fun n k => zua (w := w) (u := w.U[i]) (v := vnrm d) (n := n) (k := k)
 have hnext := fun n k => zuc (w := w) (u := w.U[i]) (v := vnrm d) (n := n) (k := k)
 have hsome := fun n k => zub (w := w) (u := w.U[i]) (v := vnrm d) (n := n) (k := k)
 have hhv : ∀ k, ki (vnrm d) k = ((vnrm d).1.tdiv ((2 ^ k : Nat) : Int), (vnrm d).2.tdiv ((2 ^ k : Nat) : Int)) := fun k => rfl
 refine ACalls.of_body (c := cfg 53) zc Tryz.func64 (by rfl) (by rfl) (by rfl) (by rfl) ?_
 refine zhy d _ _ ?_
 generalize vnrm d = nd at *
 refine AWp.loop (σ := Nat × Store × AV × AV × AV) ⟨fun x => [(0, .av (ptr mb)), (4, .bx 4 0), (5, .bx 5 0), (12, .av (int (x.1 : Nat)))], fun _ => [(4, untC w.U[i]), (5, vecC nd)],
  fun x st' => x.1 <= 5 /\ st' = x.2.1.un (svS G s w v x.2.2.1 x.2.2.2.1 x.2.2.2.2 p) /\ StandR x.2.1 G s p w v L x.2.2.1 x.2.2.2.1 x.2.2.2.2 /\ tryL w w.U[i] nd 5 0 = tryL w w.U[i] nd (5 - x.1) x.1, fun x => 5 - x.1⟩ zc ?_ ?_
 ·exact ⟨(0, F, o0, o1, o2), Tv, ⟨Nat.zero_le _, rfl, hW.S, rfl⟩, ⟨Tq, Tq, Tq, Tq, Tv⟩, ⟨rfl, rfl, Tv⟩⟩
 rintro ⟨k, F1, q0, q1, q2⟩ st' ⟨hk, rfl, hS1, hT⟩
 dsimp only at hk hS1 hT ⊢
 refine bcd (fun c1 => ?_) (fun c1 => ?_)
 rotate_left
 ·have : k = 5 := by omega
  subst this
  have hT : tryL w w.U[i] nd 5 0 = none := hT
  rw [hT] at h
  exact ret (h F1 G L q0 q1 q2 ⟨hS1, hW.hx, hW.ox, hW.os, hW.hL, hW.hF⟩)
 have hk5 : k < 5 := by omega
 obtain ⟨n, hn5⟩ : ∃ n, 5 - k = n + 1 := ⟨4 - k, by omega⟩
 rw [hn5] at hT
 have hsh := zum hk5
 have hkv := hhv k
 have hh := hhalf k
 have hp2 : ((2 ^ k : Nat) : Int) ≠ 0 := by have : 0 < 2 ^ k := Nat.pow_pos (by decide); omega
 rw [<- hsh] at hkv hp2
 have hh1 : yi (nd.1.tdiv (IntKind.i64.wrap (1 * 2 ^ (min ((k : Int)).toNat IntKind.i64.bits)))) := by
  have := hh.1
  rw [hkv] at this
  exact ⟨by dsimp only at this; omega, by dsimp only at this; omega⟩
 have hh2 : yi (nd.2.tdiv (IntKind.i64.wrap (1 * 2 ^ (min ((k : Int)).toNat IntKind.i64.bits)))) := by
  have := hh.2
  rw [hkv] at this
  exact ⟨by dsimp only at this; omega, by dsimp only at this; omega⟩
 have hz0 := hzero n k
 have hnx := hnext n k
 have hsm := hsome n k
 refine ADraw.of_sched zc (by rfl) (by rfl) ym6 (by rfl) ?_
 refine ⟨by omega, ?_⟩
 refine ⟨hp2, in64 hh1 ?_⟩
 refine ⟨by omega, ?_⟩
 refine ⟨hp2, in64 hh2 ?_⟩
 refine ⟨⟨?_, ?_⟩, Tv⟩
 ·repeat (first | exact Tv | refine ⟨rfl, ?_⟩ | refine ⟨⟨by omega, rfl⟩, ?_⟩ | refine ⟨⟨hp2, in64 hh1 rfl⟩, ?_⟩ | refine ⟨⟨hp2, in64 hh2 rfl⟩, ?_⟩)
 refine ⟨⟨Tv, ?_⟩, Tv⟩
 rw [hkv] at hz0 hnx hsm hh
 generalize nd.1.tdiv (IntKind.i64.wrap (1 * 2 ^ (min ((k : Int)).toNat IntKind.i64.bits))) = a at *
 generalize nd.2.tdiv (IntKind.i64.wrap (1 * 2 ^ (min ((k : Int)).toNat IntKind.i64.bits))) = b at *
 refine zd (fun c2 => ?_) (fun c2 => ?_)
 ·have e : (a, b) = ((0 : Int), (0 : Int)) := by
   simp only [Bool.and_eq_true, beq_iff_eq] at c2
   exact Prod.ext c2.1 c2.2.1
  rw [hz0 e] at hT
  rw [hT] at h
  exact ret (h F1 G L q0 q1 q2 ⟨hS1, hW.hx, hW.ox, hW.os, hW.hL, hW.hF⟩)
 have hne : (a, b) ≠ ((0 : Int), (0 : Int)) := fun e => by
  cases e
  exact absurd c2 (by decide)
 refine zla w.U[i].pos (a, b) hpk (yib hh) _ _ ?_
 have hnp := yib (yjt w.U[i].pos (a, b))
 have hnx := hnx hne
 have hsm := hsm hne
 generalize vadd w.U[i].pos (a, b) = np at *
 refine ADraw.of_sched zc (by rfl) (by rfl) ym5 (by rfl) ?_
 refine za (o := (F1.un (svS G s w v q0 q1 q2 p)).obj mb) _ hW.m ?_
 refine ⟨zln hS1 hm.hg (by omega) hm.hb hm.hr (by omega) hn hW.hL hW.hF w.U[i].id w.U[i].kind np hnp _ (fun z F2 a0 a1 a2 hz hS2 => ⟨Tv, ?_⟩), Tv⟩
 refine zd (fun c3 => ?_) (fun c3 => ?_)
 rotate_left
 ·rw [hnx (fun hh => by rw [hz.2 hh] at c3; cases c3)] at hT
  refine in64 (by omega) ?_
  refine ⟨(k + 1, F2, a0, a1, a2), ?_, ⟨by dsimp only; omega, rfl, hS2, ?_⟩, ⟨Tq, Tq, Tq, Tq, Tv⟩, ⟨rfl, rfl, Tv⟩⟩
  ·show 5 - (k + 1) < 5 - k
   omega
  ·show tryL w w.U[i] nd 5 0 = tryL w w.U[i] nd (5 - (k + 1)) (k + 1)
   rw [hT]
   congr 1
   omega
 rw [hsm (hz.1 c3)] at hT
 rw [hT] at h
 have hW2 : Mover F2 G mb s p w v L a0 a1 a2 := ⟨hS2, hW.hx, hW.ox, hW.os, hW.hL, hW.hF⟩
 refine ADraw.of_sched zc (by rfl) (by rfl) yf4 (by rfl) ?_
 refine za (o := (F2.un (svS G s w v a0 a1 a2 p)).obj mb) _ hW.m ?_
 refine ⟨zc4 hW2 hm hn hi { w.U[i] with pos := np } rfl hnp _ (fun F3 G3 L3 hW3 => ⟨Tv, ?_⟩), Tv⟩
 exact ret (h F3 G3 L3 a0 a1 a2 hW3)
end Go.Proofs
namespace Go.Proofs
open Go Go.V
set_option maxRecDepth 4000
theorem zg1 {F G : Store} {mb s p : Nat} {w : Wld} {v : AV} {L : List Ent} {o0 o1 o2 : AV} (hW : Mover F G mb s p w v L o0 o1 o2) (hm : MayF w) (hn : ∀ u ∈ w.U, u.pos.ok) {i : Nat} (hi : i < w.U.length) (u : Unt) (hid : w.U[i].id = u.id) (hp : u.pos.ok) (z : Int) (R : AV -> Store -> Prop)
  (h : ∀ F' G' L', Mover F' G' mb s p (putU w (endU z u)) v L' o0 o1 o2 -> R (.tup []) (F'.un (svS G' s (putU w (endU z u)) v o0 o1 o2 p))) :
  ACalls Tryz.prog 142 [ptr mb, .agg (untC u), int z] (F.un (svS G s w v o0 o1 o2 p)) R := by
 refine ACalls.of_body (c := cfg 17) zc Tryz.func142 (by rfl) (by rfl) (by rfl) (by rfl) ?_
 refine ADraw.of_sched zc (by rfl) (by rfl) yhb (by rfl) ?_
 refine za (o := (F.un (svS G s w v o0 o1 o2 p)).obj mb) _ hW.m ?_
 refine ⟨zc4 hW hm hn hi (endU z u) hid hp _ (fun F3 G3 L3 hW3 => ⟨Tv, ?_⟩), Tv⟩
 exact ret (h F3 G3 L3 hW3)
set_option maxHeartbeats 2000000 in
set_option maxRecDepth 20000 in
theorem zws {F G : Store} {mb s p : Nat} {w : Wld} {v : AV} {L : List Ent} {o0 o1 o2 : AV} (hW : Mover F G mb s p w v L o0 o1 o2) (hm : MayF w) (hn : ∀ u ∈ w.U, u.pos.ok) (hmap : ∀ u ∈ w.U, u.inn = 0 -> mapV u.pos) {i : Nat} (hi : i < w.U.length) (h0 : w.U[i].inn = 0) (R : AV -> Store -> Prop)
  (h : ∀ F' G' L' q0 q1 q2, Mover F' G' mb s p (zow w w.U[i]) v L' q0 q1 q2 -> R (.tup []) (F'.un (svS G' s (zow w w.U[i]) v q0 q1 q2 p))) :
  ACalls Tryz.prog 88 [ptr mb, .agg (untC w.U[i])] (F.un (svS G s w v o0 o1 o2 p)) R := by
 have hU := hm.hU
 have hpu := hmap _ (List.getElem_mem hi) h0
 have hkr := zao w.U[i].kind
 have hks := zds w.U[i].kind
 have htiny := zmj hpu (fun x hx h1 => hmap x hx h1) hU
 have hidl := fun (us : List Unt) (h1 : zoo w w.U[i].pos (kRad w.U[i].kind + 16384 + 81920) us) h2 => yn7 (u := w.U[i]) hm.hr h1 h2
 unfold zow at h
 refine ACalls.of_body (c := cfg 55) zc Tryz.func88 (by rfl) (by rfl) (by rfl) (by rfl) ?_
 refine ye _ _ _ ?_
 refine ADraw.of_sched zc (by rfl) (by rfl) ym2 (by rfl) ?_
 refine za (o := (F.un (svS G s w v o0 o1 o2 p)).obj mb) _ hW.m ?_
 refine in64 (by omega) ?_
 refine ⟨zf1 hW.S hm.hr (by omega) hn hW.hL hW.hF w.U[i].pos (xy hpu) (kRad w.U[i].kind + 16384) (by omega) _ (fun F1 us hS1 hus hss hul => ⟨Tv, ?_⟩), Tv⟩
 have hW1 : Mover F1 G mb s p w v L o0 o1 o2 := ⟨hS1, hW.hx, hW.ox, hW.os, hW.hL, hW.hF⟩
 have hid := hidl us hus hss
 have hnv : ∀ k, nV ((us.take k).foldl (qr w.U[i]) (0, 0)) := fun k => zl8 _ ⟨⟨by decide, by decide⟩, ⟨by decide, by decide⟩⟩
 refine AWp.loop (σ := Nat) ⟨fun k => [(0, .av (ptr mb)), (3, .bx 3 0), (4, .bx 4 0), (5, .bx 5 0), (20, .av (lst 10 untC us)), (21, .av (int (us.length : Nat))), (22, .av (int (k : Nat)))], fun k => [(3, untC w.U[i]), (4, zd4 w.U[i].kind), (5, vecC ((us.take k).foldl (qr w.U[i]) (0, 0)))],
  fun k st' => k <= us.length /\ st' = F1.un (svS G s w v o0 o1 o2 p), fun k => us.length - k⟩ zc ?_ ?_
 ·refine ⟨0, Tv, ⟨Nat.zero_le _, rfl⟩, ⟨Tq, Tq, Tq, Tq, Tq, ?_, Tq, Tv⟩, ⟨rfl, rfl, rfl, Tv⟩⟩
  exact LV.le_int (by rw [zi])
 rintro k st' ⟨hk, rfl⟩
 refine bcd (fun c1 => ?_) (fun c1 => ?_)
 rotate_left
 ·have : k = us.length := by omega
  have hv : (us.take k).foldl (qr w.U[i]) (0, 0) = zbf w w.U[i] := by
   rw [this, List.take_length, hid]
  rw [<- hv] at h htiny
  have hq4 : (yl w.U[i].kind).tdiv 4 = yl w.U[i].kind / 4 := Int.tdiv_eq_ediv_of_nonneg (by omega)
  refine ADraw.of_sched zc (by rfl) (by rfl) ym0 (by rfl) ?_
  refine ⟨by decide, in64 (by rw [hq4]; omega) ?_⟩
  refine ⟨zb0 ((us.take k).foldl (qr w.U[i]) (0, 0)) ((yl w.U[i].kind).tdiv 4) htiny (by rw [hq4]; omega) _ _ ⟨(by repeat (first | exact Tv | refine ⟨rfl, ?_⟩ | refine ⟨optR (optR (optR (za _ (zb _ _ _) rfl))), ?_⟩)), ?_⟩, Tv⟩
  refine ⟨zpy hW1 hm hn hi _ (kq htiny) _ (fun F3 G3 L3 a0 a1 a2 hW3 => ⟨Tv, ?_⟩), Tv⟩
  exact ret (h F3 G3 L3 a0 a1 a2 hW3)
 have hlt : k < us.length := by omega
 have hx := (hus us[k]).1 (List.getElem_mem hlt)
 have hpx := hmap _ hx.1.1 hx.1.2
 have hkx := zao us[k].kind
 refine ⟨k, rfl, za _ (zh hlt) ?_⟩
 have hstep : (us.take (k + 1)).foldl (qr w.U[i]) (0, 0) = qr w.U[i] ((us.take k).foldl (qr w.U[i]) (0, 0)) us[k] := by
  rw [List.take_succ_eq_append_getElem hlt, List.foldl_append]
  rfl
 refine bcne (fun c2 => ?_) (fun c2 => ?_)
 rotate_left
 ·have hst : (us.take (k + 1)).foldl (qr w.U[i]) (0, 0) = (us.take k).foldl (qr w.U[i]) (0, 0) := by
   rw [hstep]
   unfold qr
   rw [if_neg (fun hh => hh c2)]
  refine in64 (by omega) ?_
  refine ⟨k + 1, ?_, ⟨hlt, rfl⟩, ⟨Tq, Tq, Tq, Tq, Tq, Tq, Tq, Tv⟩, ⟨rfl, rfl, congrArg (fun x => some (vecC x)) hst.symm, Tv⟩⟩
  show us.length - (k + 1) < us.length - k
  omega
 have hst : (us.take (k + 1)).foldl (qr w.U[i]) (0, 0) = vadd ((us.take k).foldl (qr w.U[i]) (0, 0)) (kf w.U[i].pos (kRad w.U[i].kind + kRad us[k].kind + 16384) us[k].pos) := by
  rw [hstep]
  unfold qr
  rw [if_pos c2]
 have hps := zbu hpu hpx (r := kRad w.U[i].kind + kRad us[k].kind + 16384) (by omega)
 have hnk := hnv k
 refine ADraw.of_sched zc (by rfl) (by rfl) ym1 (by rfl) ?_
 refine ⟨ye _ _ _ ⟨(by repeat (first | exact Tv | refine ⟨rfl, ?_⟩ | refine ⟨optR (optR (optR (za _ (zb _ _ _) rfl))), ?_⟩)), ?_⟩, Tv⟩
 refine in64 (by omega) ?_
 refine in64 (by omega) ?_
 refine ⟨zrm w.U[i].pos (kRad w.U[i].kind + kRad us[k].kind + 16384) us[k].pos hpu hpx (by omega) _ _ ⟨(by repeat (first | exact Tv | refine ⟨rfl, ?_⟩ | refine ⟨optR (optR (optR (za _ (zb _ _ _) rfl))), ?_⟩)), ?_⟩, Tv⟩
 refine ⟨zla _ _ (yib hnk) ⟨⟨by omega, by omega⟩, ⟨by omega, by omega⟩⟩ _ _ ⟨(by repeat (first | exact Tv | refine ⟨rfl, ?_⟩ | refine ⟨optR (optR (optR (za _ (zb _ _ _) rfl))), ?_⟩)), ?_⟩, Tv⟩
 refine ⟨⟨(by repeat (first | exact Tv | refine ⟨rfl, ?_⟩ | refine ⟨optR (optR (optR (za _ (zb _ _ _) rfl))), ?_⟩)), ?_⟩, Tv⟩
 refine in64 (by omega) ?_
 refine ⟨k + 1, ?_, ⟨hlt, rfl⟩, ⟨Tq, Tq, Tq, Tq, Tq, Tq, Tq, Tv⟩, ⟨rfl, rfl, congrArg (fun x => some (vecC x)) hst.symm, Tv⟩⟩
 show us.length - (k + 1) < us.length - k
 omega
end Go.Proofs
namespace Go.Proofs
open Go Go.V
set_option maxRecDepth 4000
theorem zl2 (w : World) (T : Nat -> Nat -> Prop) : VRel w T (.agg []) (.agg #[]) := .agg [] #[] rfl (fun i x y hx => by simp at hx)
theorem zsf : zma Tryz.prog 147 "Net" 326 false = true := by kernel_rfl
theorem zns : zma Tryz.prog 147 "Ways" 327 false = true := by kernel_rfl
theorem zv3 : Meets Tryz.prog 147 (.agg #[]) "Net" 326 (.agg []) := Meets.valB zsf zl2
theorem zq8 : Meets Tryz.prog 147 (.agg #[]) "Ways" 327 (.agg []) := Meets.valB zns zl2
theorem zvo (g : Gnd) (hg : gndP g) (l : List Bld) (hl : l.length <= 1000000000000) (hb : ∀ b ∈ l, bldP b /\ onP g b) (c s : Int) (hs : 0 <= s /\ s <= 3) (st : Store) (R : AV -> Store -> Prop) (h : ∀ b, Fresh st b -> R (ptr b) (st.setObj b (.cells (netC g l c s)))) :
  ACalls Tryz.prog 326 [.agg [], .agg (gndC g), lst 6 bldC l, int c, int s] st R := by
 refine ACalls.of_body (c := cfg 16) zc Tryz.func326 (by rfl) (by rfl) (by rfl) (by rfl) ?_
 refine ziv g hg l hl hb c s hs _ _ (fun b hf => ?_)
 exact ret (h b hf)
theorem zsb (g : Gnd) (hg : gndP g) (l : List Bld) (hl : l.length <= 1000000000000) (hb : ∀ b ∈ l, bldP b /\ onP g b) (c s : Int) (hs : 0 <= s /\ s <= 3) (goal : Nat) (hgo : goal < g.T.length) (st : Store) (R : AV -> Store -> Prop)
  (h : ∀ b, Fresh st b -> R (.s (.slice (some ⟨b, 0, none⟩) g.T.length g.T.length)) (st.setObj b (.cells (il g.T.length (wayF g (zk g l c s) c (farF g (zk g l c s) c goal)))))) :
  ACalls Tryz.prog 327 [.agg [], .agg (gndC g), lst 6 bldC l, int c, int s, int (goal : Nat)] st R := by
 refine ACalls.of_body (c := cfg 20) zc Tryz.func327 (by rfl) (by rfl) (by rfl) (by rfl) ?_
 refine ziv g hg l hl hb c s hs _ _ (fun nb hf => ?_)
 refine zny hg (zb _ _ _) goal hgo _ (fun b hf2 => ?_)
 have hnb : nb ≠ b := fun e => by
  have := hf2.1
  rw [<- e, zb] at this; cases this
 have hfb : Fresh st b := by
  have := hf2
  unfold Fresh at this ⊢
  rw [zf (Ne.symm hnb)] at this
  exact this
 refine j8 (Tt) ?_ (h b hfb)
 rw [jk (Ne.symm hnb)]
 refine y8 ?_
 rw [zf hnb]
 exact hf.1
end Go.Proofs
namespace Go.Proofs
open Go Go.V
set_option maxRecDepth 4000
theorem zou {S : Store} {b n : Nat} {f : Nat -> Int} (hb : S.obj b = some (.cells (il n f))) (hn : n <= 1000000) (x : Int) (R : AV -> Store -> Prop) (h : ∀ r : Int, ((0 : Int) <= r ↔ (List.range n).any (fun j => f j == x) = true) -> R (int r) S) :
  ACalls Tryz.prog 219 [.s (.slice (some ⟨b, 0, none⟩) n n), int x] S R := by
 refine ACalls.of_body (c := cfg 19) zc Tryz.func219 (by rfl) (by rfl) (by rfl) (by rfl) ?_
 refine AWp.loop (σ := Nat) ⟨fun i => [(0, .av (.s (.slice (some ⟨b, 0, none⟩) n n))), (1, .av (int x)), (7, .av (int (n : Nat))), (8, .av (int (i : Nat)))], fun _ => [],
  fun i st' => i <= n /\ st' = S /\ ∀ j, j < i -> (f j == x) = false, fun i => n - i⟩ zc ?_ ?_
 ·exact ⟨0, Tv, ⟨Nat.zero_le _, rfl, fun j hj => absurd hj (Nat.not_lt_zero j)⟩, ⟨Tq, Tq, Tq, Tq, Tv⟩, Tv⟩
 rintro i st' ⟨hi, rfl, hall⟩
 refine bcd (fun c1 => ?_) (fun c1 => ?_)
 rotate_left
 ·have : i = n := by omega
  subst this
  refine ret (h (-1) ?_)
  rw [yjc hall]
  simp
 have hlt : i < n := by omega
 refine ⟨i, rfl, hlt, ?_⟩
 refine za (o := st'.obj b) _ hb ?_
 refine za _ (yx hlt) ?_
 refine bceq (fun c2 => ?_) (fun c2 => ?_)
 ·refine ret (h i ?_)
  rw [zyf hlt (by rw [c2]; simp)]
  simp
 ·refine in64 (by omega) ?_
  refine ⟨i + 1, ?_, ⟨by omega, rfl, fun j hj => ?_⟩, ⟨Tq, Tq, Tq, Tq, Tv⟩, Tv⟩
  ·show n - (i + 1) < n - i
   omega
  ·by_cases e : j = i
   ·subst e
    rw [beq_eq_false_iff_ne]
    exact fun e => c2 e.symm
   ·exact hall j (by omega)
theorem zht {S : Store} {b n : Nat} {f : Nat -> Int} (hb : S.obj b = some (.cells (il n f))) (hn : n <= 1000000) (x : Int) (R : AV -> Store -> Prop) (h : R (V.bool ((List.range n).any (fun j => f j == x))) S) :
  ACalls Tryz.prog 187 [.s (.slice (some ⟨b, 0, none⟩) n n), int x] S R := by
 refine ACalls.of_body (c := cfg 9) zc Tryz.func187 (by rfl) (by rfl) (by rfl) (by rfl) ?_
 refine zou hb hn x _ (fun r hr => ?_)
 have e : decide (r >= 0) = (List.range n).any (fun j => f j == x) := by
  rw [Bool.eq_iff_iff, decide_eq_true_iff]
  exact hr
 rw [<- e] at h
 exact ret h
set_option maxHeartbeats 4000000 in
set_option maxRecDepth 20000 in
theorem zsj {S : Store} {mb s p : Nat} {w : Wld} {v o0 o1 o2 : AV} (hmb : S.obj mb = some (.cells [ptr s, za3])) (hs : S.obj s = some (.cells (svC w v o0 o1 o2 p))) (hm : MayF w) (u : Unt) (hnx : u.next = -1 \/ ∃ t : Nat, u.next = t /\ t < w.G.T.length) (own : Nat) (ho : own < w.G.T.length) (R : AV -> Store -> Prop)
  (h : R (V.bool (jc w u own)) S) : ACalls Tryz.prog 144 [ptr mb, .agg (untC u), int (own : Nat)] S R := by
 have hB := hm.hB
 unfold jc okU at h
 refine ACalls.of_awp (c := cfg 77 [9] []) zc Tryz.func144 (by rfl) (by rfl) (by rfl) (by rfl) ?_
 refine AWp.seq (AWp.of_vc zc ?_)
 refine AWp.meet (σ := Unit) ⟨fun _ => [(0, .av (ptr mb)), (2, .av (int (own : Nat))), (4, .bx 4 0), (7, .bx 7 0), (8, .bx 8 0)], fun _ => [(4, untC u), (7, gndC w.G), (8, zd4 u.kind)], fun _ st' => st' = S⟩ zc ?_ ?_
 ·refine ADraw.of_sched zc (by rfl) (by rfl) yha (by rfl) ?_
  refine za (o := S.obj mb) _ hmb ?_
  refine za (o := S.obj s) _ hs ?_
  exact ⟨ye _ _ _ ⟨(by repeat (first | exact Tv | refine ⟨rfl, ?_⟩ | refine ⟨za (o := S.obj mb) _ hmb rfl, ?_⟩ | refine ⟨za (o := S.obj s) _ hs rfl, ?_⟩)), ⟨⟨(by repeat (first | exact Tv | refine ⟨rfl, ?_⟩ | refine ⟨za (o := S.obj mb) _ hmb rfl, ?_⟩ | refine ⟨za (o := S.obj s) _ hs rfl, ?_⟩)), ⟨⟨(by repeat (first | exact Tv | refine ⟨rfl, ?_⟩ | refine ⟨za (o := S.obj mb) _ hmb rfl, ?_⟩ | refine ⟨za (o := S.obj s) _ hs rfl, ?_⟩)), ⟨⟨Tv, ⟨⟨Tv, ⟨(), rfl, ⟨Tq, Tq, Tq, Tq, Tq, Tv⟩, ⟨rfl, rfl, rfl, Tv⟩⟩⟩, Tv⟩⟩, Tv⟩⟩, Tv⟩⟩, ⟨⟨(by repeat (first | exact Tv | refine ⟨rfl, ?_⟩ | refine ⟨za (o := S.obj mb) _ hmb rfl, ?_⟩ | refine ⟨za (o := S.obj s) _ hs rfl, ?_⟩)), ⟨⟨(by repeat (first | exact Tv | refine ⟨rfl, ?_⟩ | refine ⟨za (o := S.obj mb) _ hmb rfl, ?_⟩ | refine ⟨za (o := S.obj s) _ hs rfl, ?_⟩)), ⟨⟨Tv, ⟨⟨Tv, ⟨(), rfl, ⟨Tq, Tq, Tq, Tq, Tq, Tv⟩, ⟨rfl, rfl, rfl, Tv⟩⟩⟩, Tv⟩⟩, Tv⟩⟩, Tv⟩⟩, Tv⟩⟩⟩, ⟨⟨(by repeat (first | exact Tv | refine ⟨rfl, ?_⟩ | refine ⟨za (o := S.obj mb) _ hmb rfl, ?_⟩ | refine ⟨za (o := S.obj s) _ hs rfl, ?_⟩)), ⟨ye _ _ _ ⟨(by repeat (first | exact Tv | refine ⟨rfl, ?_⟩ | refine ⟨za (o := S.obj mb) _ hmb rfl, ?_⟩ | refine ⟨za (o := S.obj s) _ hs rfl, ?_⟩)), ⟨⟨(by repeat (first | exact Tv | refine ⟨rfl, ?_⟩ | refine ⟨za (o := S.obj mb) _ hmb rfl, ?_⟩ | refine ⟨za (o := S.obj s) _ hs rfl, ?_⟩)), ⟨⟨Tv, ⟨⟨Tv, ⟨(), rfl, ⟨Tq, Tq, Tq, Tq, Tq, Tv⟩, ⟨rfl, rfl, rfl, Tv⟩⟩⟩, Tv⟩⟩, Tv⟩⟩, Tv⟩⟩, ⟨⟨(by repeat (first | exact Tv | refine ⟨rfl, ?_⟩ | refine ⟨za (o := S.obj mb) _ hmb rfl, ?_⟩ | refine ⟨za (o := S.obj s) _ hs rfl, ?_⟩)), ⟨ye _ _ _ ⟨(by repeat (first | exact Tv | refine ⟨rfl, ?_⟩ | refine ⟨za (o := S.obj mb) _ hmb rfl, ?_⟩ | refine ⟨za (o := S.obj s) _ hs rfl, ?_⟩)), ⟨⟨Tv, ⟨⟨Tv, ⟨(), rfl, ⟨Tq, Tq, Tq, Tq, Tq, Tv⟩, ⟨rfl, rfl, rfl, Tv⟩⟩⟩, Tv⟩⟩, Tv⟩⟩, Tv⟩⟩, Tv⟩⟩⟩, ⟨⟨(by repeat (first | exact Tv | refine ⟨rfl, ?_⟩ | refine ⟨za (o := S.obj mb) _ hmb rfl, ?_⟩ | refine ⟨za (o := S.obj s) _ hs rfl, ?_⟩)), ⟨ye _ _ _ ⟨(by repeat (first | exact Tv | refine ⟨rfl, ?_⟩ | refine ⟨za (o := S.obj mb) _ hmb rfl, ?_⟩ | refine ⟨za (o := S.obj s) _ hs rfl, ?_⟩)), ⟨⟨(by repeat (first | exact Tv | refine ⟨rfl, ?_⟩ | refine ⟨za (o := S.obj mb) _ hmb rfl, ?_⟩ | refine ⟨za (o := S.obj s) _ hs rfl, ?_⟩)), ⟨⟨Tv, ⟨⟨Tv, ⟨(), rfl, ⟨Tq, Tq, Tq, Tq, Tq, Tv⟩, ⟨rfl, rfl, rfl, Tv⟩⟩⟩, Tv⟩⟩, Tv⟩⟩, Tv⟩⟩, ⟨⟨(by repeat (first | exact Tv | refine ⟨rfl, ?_⟩ | refine ⟨za (o := S.obj mb) _ hmb rfl, ?_⟩ | refine ⟨za (o := S.obj s) _ hs rfl, ?_⟩)), ⟨ye _ _ _ ⟨(by repeat (first | exact Tv | refine ⟨rfl, ?_⟩ | refine ⟨za (o := S.obj mb) _ hmb rfl, ?_⟩ | refine ⟨za (o := S.obj s) _ hs rfl, ?_⟩)), ⟨⟨Tv, ⟨⟨Tv, ⟨(), rfl, ⟨Tq, Tq, Tq, Tq, Tq, Tv⟩, ⟨rfl, rfl, rfl, Tv⟩⟩⟩, Tv⟩⟩, Tv⟩⟩, Tv⟩⟩, Tv⟩⟩⟩, Tv⟩⟩⟩
 rintro _ st' rfl
 refine AWp.of_vc zc ?_
 have hk := zj5 u.kind
 refine ADraw.of_sched zc (by rfl) (by rfl) yg9 (by rfl) ?_
 refine bceq (fun c1 => ?_) (fun c1 => ?_)
 ·refine ⟨⟨(by repeat (first | exact Tv | refine ⟨rfl, ?_⟩ | refine ⟨optR (optR (optR (za _ (zb _ _ _) rfl))), ?_⟩)), ?_⟩, Tv⟩
  refine ⟨⟨(by repeat (first | exact Tv | refine ⟨rfl, ?_⟩ | refine ⟨optR (optR (optR (za _ (zb _ _ _) rfl))), ?_⟩)), ?_⟩, Tv⟩
  rw [decide_eq_true c1] at h
  exact ret h
 obtain ⟨t, ht, htl⟩ : ∃ t : Nat, u.next = t /\ t < w.G.T.length := by
  rcases hnx with h1 | h1
  ·exact absurd h1 c1
  ·exact h1
 rw [decide_eq_false c1, ht, Int.toNat_natCast] at h
 refine ⟨zj0 w.G hm.hg t htl u.next ht _ _ ⟨(by repeat (first | exact Tv | refine ⟨rfl, ?_⟩ | refine ⟨optR (optR (optR (za _ (zb _ _ _) rfl))), ?_⟩)), ?_⟩, Tv⟩
 refine zd (fun c2 => ?_) (fun c2 => ?_)
 ·refine ⟨⟨(by repeat (first | exact Tv | refine ⟨rfl, ?_⟩ | refine ⟨optR (optR (optR (za _ (zb _ _ _) rfl))), ?_⟩)), ?_⟩, Tv⟩
  have e : u.pos = cenV w.G t := by
   simp only [Bool.and_eq_true, beq_iff_eq] at c2
   exact Prod.ext c2.1 c2.2.1
  rw [decide_eq_true e] at h
  exact ret h
 have e : ¬ u.pos = cenV w.G t := fun e => by
  simp only [e, Bool.and_eq_false_iff, beq_eq_false_iff_ne] at c2
  rcases c2 with c2 | c2 | c2
  ·exact c2 rfl
  ·exact c2 rfl
  ·cases c2
 rw [decide_eq_false e] at h
 refine za (o := st'.obj mb) _ hmb ?_
 refine za (o := st'.obj mb) _ hmb ?_
 refine za (o := st'.obj s) _ hs ?_
 refine ⟨⟨_, _, zv3, zvo w.G hm.hg w.B (by omega) hm.hb (kCls u.kind) (yy u.kind) hk _ _ (fun b hf => ⟨(by repeat (first | exact Tv | refine ⟨rfl, ?_⟩ | refine ⟨optR (optR (optR (za _ (zb _ _ _) rfl))), ?_⟩)), ?_⟩)⟩, Tv⟩
 have hmb2 : (st'.setObj b (.cells (netC w.G w.B (kCls u.kind) (yy u.kind)))).obj b = some (.cells (netC w.G w.B (kCls u.kind) (yy u.kind))) := zb _ _ _
 have hback : (st'.setObj b (.cells (netC w.G w.B (kCls u.kind) (yy u.kind)))).Has st' := y8 hf.1
 generalize st'.setObj b (.cells (netC w.G w.B (kCls u.kind) (yy u.kind))) = S2 at *
 refine za (o := S2.obj b) _ hmb2 ?_
 have htl2 : t < (blL w.G.T.length (zk w.G w.B (kCls u.kind) (yy u.kind))).length := by rw [yo]; exact htl
 refine ⟨t, ht, za _ (zh htl2) ?_⟩
 rw [je htl]
 refine yk ?_
 refine zd (fun c3 => ?_) (fun c3 => ?_)
 rotate_left
 ·rw [c3] at h
  exact j8 (Tt) hback h
 rw [c3] at h
 refine zak w.G hm.hg own ho _ _ ?_
 intro b9 hf9
 have e9 : zo (List.replicate 8 (int 0)) 0 (il 8 (besN w.G own)) = il 8 (besN w.G own) := by
  unfold zo
  rw [yv]
  simp
 refine yw (i := ti153) (v := besV w.G own) (xs := il 8 (besN w.G own)) (l := List.replicate 8 (int 0)) rfl rfl rfl (zb _ _ _) (by rw [yv, List.length_replicate]; decide) ?_
 rw [e9, zg]
 have h9 : (S2.setObj b9 (.cells (il 8 (besN w.G own)))).obj b9 = some (.cells (il 8 (besN w.G own))) := zb _ _ _
 have hback2 : (S2.setObj b9 (.cells (il 8 (besN w.G own)))).Has st' := (y8 hf9.1).trans hback
 generalize S2.setObj b9 (.cells (il 8 (besN w.G own))) = S3 at *
 rw [yia] at h
 refine ADraw.of_sched zc (by rfl) (by rfl) yg8 (by rfl) ?_
 refine bcne (fun c4 => ?_) (fun c4 => ?_)
 rotate_left
 ·refine ⟨⟨(by repeat (first | exact Tv | refine ⟨rfl, ?_⟩ | refine ⟨optR (optR (optR (za _ (zb _ _ _) rfl))), ?_⟩)), ?_⟩, Tv⟩
  refine ⟨⟨Tv, ?_⟩, Tv⟩
  rw [decide_eq_false (fun hh => hh (ht.symm.trans c4))] at h
  exact j8 (Tt) hback2 h
 refine ⟨zht h9 (by decide) u.next _ ⟨(by repeat (first | exact Tv | refine ⟨rfl, ?_⟩ | refine ⟨optR (optR (optR (za _ (zb _ _ _) rfl))), ?_⟩)), ?_⟩, Tv⟩
 refine ⟨⟨Tv, ?_⟩, Tv⟩
 rw [decide_eq_true (show (t : Int) ≠ (own : Int) from fun hh => c4 (ht.trans hh))] at h
 rw [ht]
 exact j8 (Tt) hback2 h
end Go.Proofs
namespace Go.Proofs
open Go Go.V
set_option maxRecDepth 4000
set_option maxHeartbeats 4000000 in
set_option maxRecDepth 20000 in
theorem zv2 {S : Store} {mb s p : Nat} {w : Wld} {v o0 o1 o2 : AV} (hmb : S.obj mb = some (.cells [ptr s, za3])) (hs : S.obj s = some (.cells (svC w v o0 o1 o2 p))) (hm : MayF w) (u : Unt) (goal : Nat) (hgo : u.goal = goal) (hgl : goal < w.G.T.length) (own : Nat) (ho : own < w.G.T.length) (R : AV -> Store -> Prop)
  (h : R (int (zac w u own)) S) : ACalls Tryz.prog 145 [ptr mb, .agg (untC u), int (own : Nat)] S R := by
 have hB := hm.hB
 unfold zac okU at h
 have hk := zj5 u.kind
 rw [hgo, Int.toNat_natCast] at h
 refine ACalls.of_awp (c := cfg 60) zc Tryz.func145 (by rfl) (by rfl) (by rfl) (by rfl) ?_
 refine AWp.seq (AWp.of_vc zc ?_)
 refine AWp.meet (σ := Unit) ⟨fun _ => [(0, .av (ptr mb)), (2, .av (int (own : Nat))), (4, .bx 4 0), (7, .bx 7 0), (8, .bx 8 0)], fun _ => [(4, untC u), (7, gndC w.G), (8, zd4 u.kind)], fun _ st' => st' = S⟩ zc ?_ ?_
 ·refine ADraw.of_sched zc (by rfl) (by rfl) yg7 (by rfl) ?_
  refine za (o := S.obj mb) _ hmb ?_
  refine za (o := S.obj s) _ hs ?_
  exact ⟨ye _ _ _ ⟨(by repeat (first | exact Tv | refine ⟨rfl, ?_⟩ | refine ⟨za (o := S.obj mb) _ hmb rfl, ?_⟩ | refine ⟨za (o := S.obj s) _ hs rfl, ?_⟩)), ⟨⟨(by repeat (first | exact Tv | refine ⟨rfl, ?_⟩ | refine ⟨za (o := S.obj mb) _ hmb rfl, ?_⟩ | refine ⟨za (o := S.obj s) _ hs rfl, ?_⟩)), ⟨⟨(by repeat (first | exact Tv | refine ⟨rfl, ?_⟩ | refine ⟨za (o := S.obj mb) _ hmb rfl, ?_⟩ | refine ⟨za (o := S.obj s) _ hs rfl, ?_⟩)), ⟨⟨Tv, ⟨⟨Tv, ⟨(), rfl, ⟨Tq, Tq, Tq, Tq, Tq, Tv⟩, ⟨rfl, rfl, rfl, Tv⟩⟩⟩, Tv⟩⟩, Tv⟩⟩, Tv⟩⟩, ⟨⟨(by repeat (first | exact Tv | refine ⟨rfl, ?_⟩ | refine ⟨za (o := S.obj mb) _ hmb rfl, ?_⟩ | refine ⟨za (o := S.obj s) _ hs rfl, ?_⟩)), ⟨⟨(by repeat (first | exact Tv | refine ⟨rfl, ?_⟩ | refine ⟨za (o := S.obj mb) _ hmb rfl, ?_⟩ | refine ⟨za (o := S.obj s) _ hs rfl, ?_⟩)), ⟨⟨Tv, ⟨⟨Tv, ⟨(), rfl, ⟨Tq, Tq, Tq, Tq, Tq, Tv⟩, ⟨rfl, rfl, rfl, Tv⟩⟩⟩, Tv⟩⟩, Tv⟩⟩, Tv⟩⟩, Tv⟩⟩⟩, ⟨⟨(by repeat (first | exact Tv | refine ⟨rfl, ?_⟩ | refine ⟨za (o := S.obj mb) _ hmb rfl, ?_⟩ | refine ⟨za (o := S.obj s) _ hs rfl, ?_⟩)), ⟨ye _ _ _ ⟨(by repeat (first | exact Tv | refine ⟨rfl, ?_⟩ | refine ⟨za (o := S.obj mb) _ hmb rfl, ?_⟩ | refine ⟨za (o := S.obj s) _ hs rfl, ?_⟩)), ⟨⟨(by repeat (first | exact Tv | refine ⟨rfl, ?_⟩ | refine ⟨za (o := S.obj mb) _ hmb rfl, ?_⟩ | refine ⟨za (o := S.obj s) _ hs rfl, ?_⟩)), ⟨⟨Tv, ⟨⟨Tv, ⟨(), rfl, ⟨Tq, Tq, Tq, Tq, Tq, Tv⟩, ⟨rfl, rfl, rfl, Tv⟩⟩⟩, Tv⟩⟩, Tv⟩⟩, Tv⟩⟩, ⟨⟨(by repeat (first | exact Tv | refine ⟨rfl, ?_⟩ | refine ⟨za (o := S.obj mb) _ hmb rfl, ?_⟩ | refine ⟨za (o := S.obj s) _ hs rfl, ?_⟩)), ⟨ye _ _ _ ⟨(by repeat (first | exact Tv | refine ⟨rfl, ?_⟩ | refine ⟨za (o := S.obj mb) _ hmb rfl, ?_⟩ | refine ⟨za (o := S.obj s) _ hs rfl, ?_⟩)), ⟨⟨Tv, ⟨⟨Tv, ⟨(), rfl, ⟨Tq, Tq, Tq, Tq, Tq, Tv⟩, ⟨rfl, rfl, rfl, Tv⟩⟩⟩, Tv⟩⟩, Tv⟩⟩, Tv⟩⟩, Tv⟩⟩⟩, ⟨⟨(by repeat (first | exact Tv | refine ⟨rfl, ?_⟩ | refine ⟨za (o := S.obj mb) _ hmb rfl, ?_⟩ | refine ⟨za (o := S.obj s) _ hs rfl, ?_⟩)), ⟨ye _ _ _ ⟨(by repeat (first | exact Tv | refine ⟨rfl, ?_⟩ | refine ⟨za (o := S.obj mb) _ hmb rfl, ?_⟩ | refine ⟨za (o := S.obj s) _ hs rfl, ?_⟩)), ⟨⟨(by repeat (first | exact Tv | refine ⟨rfl, ?_⟩ | refine ⟨za (o := S.obj mb) _ hmb rfl, ?_⟩ | refine ⟨za (o := S.obj s) _ hs rfl, ?_⟩)), ⟨⟨Tv, ⟨⟨Tv, ⟨(), rfl, ⟨Tq, Tq, Tq, Tq, Tq, Tv⟩, ⟨rfl, rfl, rfl, Tv⟩⟩⟩, Tv⟩⟩, Tv⟩⟩, Tv⟩⟩, ⟨⟨(by repeat (first | exact Tv | refine ⟨rfl, ?_⟩ | refine ⟨za (o := S.obj mb) _ hmb rfl, ?_⟩ | refine ⟨za (o := S.obj s) _ hs rfl, ?_⟩)), ⟨ye _ _ _ ⟨(by repeat (first | exact Tv | refine ⟨rfl, ?_⟩ | refine ⟨za (o := S.obj mb) _ hmb rfl, ?_⟩ | refine ⟨za (o := S.obj s) _ hs rfl, ?_⟩)), ⟨⟨Tv, ⟨⟨Tv, ⟨(), rfl, ⟨Tq, Tq, Tq, Tq, Tq, Tv⟩, ⟨rfl, rfl, rfl, Tv⟩⟩⟩, Tv⟩⟩, Tv⟩⟩, Tv⟩⟩, Tv⟩⟩⟩, Tv⟩⟩⟩
 rintro _ st' rfl
 refine AWp.of_vc zc ?_
 refine ADraw.of_sched zc (by rfl) (by rfl) yg6 (by rfl) ?_
 refine ⟨zj0 w.G hm.hg own ho (own : Nat) rfl _ _ ⟨(by repeat (first | exact Tv | refine ⟨rfl, ?_⟩ | refine ⟨optR (optR (optR (za _ (zb _ _ _) rfl))), ?_⟩)), ?_⟩, Tv⟩
 refine yk ?_
 refine zd (fun c2 => ?_) (fun c2 => ?_)
 rotate_left
 ·have e : u.pos ≠ cenV w.G own := fun e => by
   simp only [e, Bool.and_eq_false_iff, beq_eq_false_iff_ne] at c2
   rcases c2 with c2 | c2 | c2
   ·exact c2 rfl
   ·exact c2 rfl
   ·cases c2
  rw [if_pos e] at h
  exact ret h
 have e : ¬ u.pos ≠ cenV w.G own := fun e => e (by
  simp only [Bool.and_eq_true, beq_iff_eq] at c2
  exact Prod.ext c2.1 c2.2.1)
 rw [if_neg e] at h
 dsimp only at h
 refine ADraw.of_sched zc (by rfl) (by rfl) yg5 (by rfl) ?_
 refine za (o := st'.obj mb) _ hmb ?_
 refine za (o := st'.obj mb) _ hmb ?_
 refine za (o := st'.obj s) _ hs ?_
 refine ⟨⟨_, _, zq8, ?_⟩, Tv⟩
 show ACalls _ _ [_, _, _, _, _, int u.goal] _ _
 rw [hgo]
 refine zsb w.G hm.hg w.B (by omega) hm.hb (kCls u.kind) (yy u.kind) hk goal hgl _ _ (fun b hf => ⟨(by repeat (first | exact Tv | refine ⟨rfl, ?_⟩ | refine ⟨optR (optR (optR (za _ (zb _ _ _) rfl))), ?_⟩)), ?_⟩)
 have hmb2 : (st'.setObj b (.cells (il w.G.T.length (wayF w.G (zk w.G w.B (kCls u.kind) (yy u.kind)) (kCls u.kind) (farF w.G (zk w.G w.B (kCls u.kind) (yy u.kind)) (kCls u.kind) goal))))).obj b = some (.cells (il w.G.T.length (wayF w.G (zk w.G w.B (kCls u.kind) (yy u.kind)) (kCls u.kind) (farF w.G (zk w.G w.B (kCls u.kind) (yy u.kind)) (kCls u.kind) goal)))) := zb _ _ _
 have hback : (st'.setObj b (.cells (il w.G.T.length (wayF w.G (zk w.G w.B (kCls u.kind) (yy u.kind)) (kCls u.kind) (farF w.G (zk w.G w.B (kCls u.kind) (yy u.kind)) (kCls u.kind) goal))))).Has st' := y8 hf.1
 generalize st'.setObj b (.cells (il w.G.T.length (wayF w.G (zk w.G w.B (kCls u.kind) (yy u.kind)) (kCls u.kind) (farF w.G (zk w.G w.B (kCls u.kind) (yy u.kind)) (kCls u.kind) goal)))) = S2 at *
 have hway := yj4 w.G (zk w.G w.B (kCls u.kind) (yy u.kind)) (kCls u.kind) (farF w.G (zk w.G w.B (kCls u.kind) (yy u.kind)) (kCls u.kind) goal) own
 have hhd := yx (f := wayF w.G (zk w.G w.B (kCls u.kind) (yy u.kind)) (kCls u.kind) (farF w.G (zk w.G w.B (kCls u.kind) (yy u.kind)) (kCls u.kind) goal)) ho
 refine ⟨own, rfl, ho, ?_⟩
 refine za (o := S2.obj b) _ hmb2 ?_
 refine za _ hhd ?_
 generalize wayF w.G (zk w.G w.B (kCls u.kind) (yy u.kind)) (kCls u.kind) (farF w.G (zk w.G w.B (kCls u.kind) (yy u.kind)) (kCls u.kind) goal) own = W at *
 refine ⟨⟨Tv, ?_⟩, Tv⟩
 refine bcd (fun c3 => ?_) (fun c3 => ?_)
 ·rw [if_pos c3] at h
  exact j8 (Tt) hback h
 rw [if_neg c3] at h
 obtain ⟨j, hj, rfl⟩ : ∃ j : Nat, j < 8 /\ W = (j : Int) := by
  rcases hway with h1 | ⟨j, h1, h2, _⟩
  ·omega
  ·exact ⟨j, h1, h2⟩
 rw [Int.toNat_natCast] at h
 refine zak w.G hm.hg own ho _ _ ?_
 refine ⟨j, rfl, hj, ?_⟩
 refine za _ (zj8 hj) ?_
 exact j8 (Tt) hback h
end Go.Proofs
namespace Go.Proofs
open Go Go.V
set_option maxRecDepth 4000
theorem zbo {g : Gnd} (hg : gndP g) {t : Int} (h : wz g t) : t = -1 \/ ∃ k : Nat, t = k /\ k < g.T.length := by
 rcases h with h | ⟨h1, h2⟩
 ·exact .inl h
 ·obtain ⟨k, rfl⟩ := Int.eq_ofNat_of_zero_le h1
  exact .inr ⟨k, rfl, by have := hg.2.2.1; omega⟩
theorem zyv {w : Wld} {u : Unt} {d : Vc} (h : ¬ tryK w u d < 5) : tryW w u d = w := by
 unfold tryK at h
 unfold tryW
 cases hl : tryL w u (vnrm d) 5 0 with
 | none => rfl
 | some r =>
  rw [hl] at h
  obtain ⟨k, q⟩ := r
  have := (zbn _ _ hl).2.1.2
  dsimp only at this h
  exact absurd (by omega) h
set_option maxHeartbeats 4000000 in
set_option maxRecDepth 20000 in
theorem zw7 {F G : Store} {mb s p : Nat} {w : Wld} {v : AV} {L : List Ent} {o0 o1 o2 : AV} (hW : Mover F G mb s p w v L o0 o1 o2) (hmay : mayP w) (hn : ∀ u ∈ w.U, u.pos.ok) {i : Nat} (hi : i < w.U.length) (h0 : w.U[i].inn = 0) (hgo : w.U[i].goal ≠ -1) (R : AV -> Store -> Prop)
  (h : ∀ F' G' L' q0 q1 q2, Mover F' G' mb s p (zd7 w w.U[i]) v L' q0 q1 q2 -> R (.tup []) (F'.un (svS G' s (zd7 w w.U[i]) v q0 q1 q2 p))) :
  ACalls Tryz.prog 89 [ptr mb, .agg (untC w.U[i])] (F.un (svS G s w v o0 o1 o2 p)) R := by
 have hm := mayF hmay
 have hut := zpu hmay hi
 have hon := zvy hmay hi h0
 have hown := zqe hmay hi h0
 have hmp := za8 hmay (List.getElem_mem hi) h0
 obtain ⟨goal, hgq, hgl⟩ : ∃ k : Nat, w.U[i].goal = k /\ k < w.G.T.length := by
  rcases zbo hm.hg hut.2.1.1 with h1 | h1
  ·exact absurd h1 hgo
  ·exact h1
 have hnx := zbo hm.hg hut.2.1.2.1
 have hstk := hut.2.1.2.2
 have hnt := zdx (w := w) hm.hg (u := w.U[i]) hown
 have hgoes : zd7 w w.U[i] = if w.U[i].pos = cenV w.G goal then putU w (endU 2 w.U[i]) else if jc w w.U[i] (qm w.G w.U[i].pos) then (if zac w w.U[i] (qm w.G w.U[i].pos) < 0 then putU w (endU 3 w.U[i]) else w7 w { w.U[i] with next := zac w w.U[i] (qm w.G w.U[i].pos) }) else w7 w w.U[i] := by
  have e : w.U[i].goal.toNat = goal := by rw [hgq, Int.toNat_natCast]
  unfold zd7
  rw [e]
 have hlook1 : jc w w.U[i] (qm w.G w.U[i].pos) = false -> w.U[i].next ≠ -1 := fun hh e => by
  unfold jc at hh
  rw [decide_eq_true e] at hh
  simp at hh
 obtain ⟨own, hownE⟩ : ∃ own, qm w.G w.U[i].pos = own := ⟨_, rfl⟩
 rw [hownE] at hown hnt hgoes hlook1
 refine ACalls.of_awp (c := cfg 84) zc Tryz.func89 (by rfl) (by rfl) (by rfl) (by rfl) ?_
 refine AWp.seq (AWp.of_vc zc ?_)
 refine AWp.seq (AWp.of_vc zc ?_)
 refine za (o := (F.un (svS G s w v o0 o1 o2 p)).obj mb) _ hW.m ?_
 refine za (o := (F.un (svS G s w v o0 o1 o2 p)).obj s) _ hW.s ?_
 refine AWp.seq (AWp.of_vc zc ?_)
 refine ADraw.of_sched zc (by rfl) (by rfl) ymz (by rfl) ?_
 refine ⟨zj0 w.G hm.hg goal hgl w.U[i].goal hgq _ _ ⟨(by repeat (first | exact Tv | refine ⟨rfl, ?_⟩ | refine ⟨optR (optR (optR (za _ (zb _ _ _) rfl))), ?_⟩)), ?_⟩, Tv⟩
 refine zd (fun c1 => ?_) (fun c1 => ?_)
 ·have e : w.U[i].pos = cenV w.G goal := by
   simp only [Bool.and_eq_true, beq_iff_eq] at c1
   exact Prod.ext c1.1 c1.2.1
  rw [if_pos e] at hgoes
  rw [hgoes] at h
  refine zg1 hW hm hn hi w.U[i] rfl (xy hmp) 2 _ (fun F3 G3 L3 hW3 => ?_)
  exact ret (h F3 G3 L3 o0 o1 o2 hW3)
 have e : ¬ w.U[i].pos = cenV w.G goal := fun e => by
  simp only [e, Bool.and_eq_false_iff, beq_eq_false_iff_ne] at c1
  rcases c1 with c1 | c1 | c1
  ·exact c1 rfl
  ·exact c1 rfl
  ·cases c1
 rw [if_neg e] at hgoes
 refine AWp.meet (σ := Nat) ⟨fun t => [(0, .av (ptr mb)), (3, .bx 3 0), (4, .bx 4 0)], fun t => [(3, untC { w.U[i] with next := (t : Int) }), (4, gndC w.G)], fun t st' => st' = F.un (svS G s w v o0 o1 o2 p) /\ t < w.G.T.length /\ zd7 w w.U[i] = w7 w { w.U[i] with next := (t : Int) }⟩ zc ?_ ?_
 ·refine zrg w.G hm.hg w.U[i].pos hon _ _ ?_
  rw [hownE]
  refine zsj hW.m hW.s hm w.U[i] hnx own hown _ ?_
  refine zd (fun c2 => ?_) (fun c2 => ?_)
  rotate_left
  ·rw [if_neg (by rw [c2]; decide)] at hgoes
   obtain ⟨t, ht, htl⟩ : ∃ k : Nat, w.U[i].next = k /\ k < w.G.T.length := by
    rcases hnx with h1 | h1
    ·exact absurd h1 (hlook1 c2)
    ·exact h1
   have e2 : { w.U[i] with next := (t : Int) } = w.U[i] := by rw [<- ht]
   refine ⟨t, ⟨rfl, htl, by rw [e2]; exact hgoes⟩, ⟨Tq, Tq, Tq, Tv⟩, ⟨?_, rfl, Tv⟩⟩
   rw [e2]
   rfl
  rw [if_pos c2] at hgoes
  refine zv2 hW.m hW.s hm w.U[i] goal hgq hgl own hown _ ?_
  generalize zac w w.U[i] own = nx at *
  refine bcd (fun c3 => ?_) (fun c3 => ?_)
  ·rw [if_pos c3] at hgoes
   rw [hgoes] at h
   refine zg1 hW hm hn hi { w.U[i] with next := nx } rfl (xy hmp) 3 _ (fun F3 G3 L3 hW3 => ?_)
   exact ret (h F3 G3 L3 o0 o1 o2 hW3)
  rw [if_neg c3] at hgoes
  obtain ⟨t, rfl, htl⟩ : ∃ k : Nat, nx = k /\ k < w.G.T.length := by
   rcases zbo hm.hg hnt with h1 | h1
   ·omega
   ·exact h1
  exact ⟨t, ⟨rfl, htl, hgoes⟩, ⟨Tq, Tq, Tq, Tv⟩, ⟨rfl, rfl, Tv⟩⟩
 rintro t st' ⟨rfl, htl, hgoes⟩
 rw [hgoes] at h
 have hid : ({ w.U[i] with next := (t : Int), stuck := 0 } : Unt).id = w.U[i].id := rfl
 have hmay1 : mayP (putU w { w.U[i] with next := (t : Int), stuck := 0 }) := zgm hmay hi h0 rfl (zfp hut hgo (zji hm.hg htl) (by omega))
 obtain ⟨hi1, he1⟩ := zjy hm.hr hi hid
 have hn1 : ∀ x ∈ (putU w { w.U[i] with next := (t : Int), stuck := 0 }).U, x.pos.ok := fun x hx => by
  obtain ⟨j, hj, rfl⟩ := List.getElem_of_mem hx
  rw [zjx] at hj
  by_cases hji : j = i
  ·subst hji
   rw [he1]
   exact xy hmp
  ·rw [zvm hm.hr hi hid hj hji]
   exact hn _ (List.getElem_mem hj)
 have hks := zds w.U[i].kind
 have hcm := zpj hm.hg htl
 have hway := wy hmp hcm
 unfold w7 at h
 dsimp only at h
 rw [Int.toNat_natCast] at h
 have hpp : ∀ x : Unt, x.id = w.U[i].id -> putU (putU w { w.U[i] with next := (t : Int), stuck := 0 }) x = putU w x := fun x hx => zc3 w hx.symm
 refine AWp.of_vc zc ?_
 refine ADraw.of_sched zc (by rfl) (by rfl) yf2 (by rfl) ?_
 refine za (o := (F.un (svS G s w v o0 o1 o2 p)).obj mb) _ hW.m ?_
 refine ⟨zc4 hW hm hn hi { w.U[i] with next := (t : Int), stuck := 0 } rfl (xy hmp) _ (fun F1 G1 L1 hW1 => ⟨Tv, ?_⟩), Tv⟩
 generalize hw1 : putU w { w.U[i] with next := (t : Int), stuck := 0 } = w1 at *
 have hm1 := mayF hmay1
 have hG1 : w1.G = w.G := by rw [<- hw1]; rfl
 have htry := zpy hW1 hm1 hn1 hi1
 rw [he1] at htry
 refine ADraw.of_sched zc (by rfl) (by rfl) yf1 (by rfl) ?_
 refine ⟨zj0 w.G hm.hg t htl (t : Nat) rfl _ _ ⟨(by repeat (first | exact Tv | refine ⟨rfl, ?_⟩ | refine ⟨optR (optR (optR (za _ (zb _ _ _) rfl))), ?_⟩)), ?_⟩, Tv⟩
 refine ⟨ye _ _ _ ⟨(by repeat (first | exact Tv | refine ⟨rfl, ?_⟩ | refine ⟨optR (optR (optR (za _ (zb _ _ _) rfl))), ?_⟩)), ?_⟩, Tv⟩
 refine ⟨zjg w.U[i].pos (cenV w.G t) (yl w.U[i].kind) hmp hcm (by omega) _ _ ⟨(by repeat (first | exact Tv | refine ⟨rfl, ?_⟩ | refine ⟨optR (optR (optR (za _ (zb _ _ _) rfl))), ?_⟩)), ?_⟩, Tv⟩
 refine ⟨htry (xh w.U[i].pos (cenV w.G t) (yl w.U[i].kind)) (kq hway) _ (fun F2 G2 L2 a0 a1 a2 hW2 => ⟨(by repeat (first | exact Tv | refine ⟨rfl, ?_⟩ | refine ⟨optR (optR (optR (za _ (zb _ _ _) rfl))), ?_⟩)), ?_⟩), Tv⟩
 refine bcd (fun c4 => ?_) (fun c4 => ?_)
 ·rw [if_pos c4] at h
  exact ret (h F2 G2 L2 a0 a1 a2 hW2)
 rw [if_neg c4] at h
 rw [zyv c4] at hW2 ⊢
 refine in64 (v := w.U[i].stuck + 1) (by omega) ?_
 refine bceq (fun c5 => ?_) (fun c5 => ?_)
 ·rw [if_pos c5] at h
  refine zg1 hW2 hm1 hn1 hi1 { w.U[i] with next := -1, stuck := w.U[i].stuck + 1 } (by rw [he1]) (xy hmp) 4 _ (fun F3 G3 L3 hW3 => ?_)
  have e3 := hpp (endU 4 { w.U[i] with next := -1, stuck := w.U[i].stuck + 1 }) rfl
  rw [e3] at hW3 ⊢
  exact ret (h F3 G3 L3 a0 a1 a2 hW3)
 rw [if_neg c5] at h
 refine ADraw.of_sched zc (by rfl) (by rfl) yf0 (by rfl) ?_
 refine za (o := (F2.un (svS G2 s w1 v a0 a1 a2 p)).obj mb) _ hW2.m ?_
 refine ⟨zc4 hW2 hm1 hn1 hi1 { w.U[i] with next := -1, stuck := w.U[i].stuck + 1 } (by rw [he1]) (xy hmp) _ (fun F3 G3 L3 hW3 => ⟨Tv, ?_⟩), Tv⟩
 have e3 := hpp { w.U[i] with next := -1, stuck := w.U[i].stuck + 1 } rfl
 rw [e3] at hW3 ⊢
 exact ret (h F3 G3 L3 a0 a1 a2 hW3)
end Go.Proofs
namespace Go.Proofs
open Go Go.V
set_option maxRecDepth 4000
theorem zng (u : Bld) : (bldC u).length = 6 := rfl
theorem yoj (b : Bld) : ∀ y ∈ bldC b, ∃ x, y = AV.s x /\ z8 x = true := by
 intro y hy
 simp [bldC] at hy
 rcases hy with rfl | rfl | rfl | rfl | rfl | rfl <;> exact ⟨_, rfl, rfl⟩
theorem zpw (c : UInt8) : (u8C c).length = 1 := rfl
theorem yox (c : UInt8) : ∀ y ∈ u8C c, ∃ x, y = AV.s x /\ z8 x = true := by
 intro y hy
 simp [u8C] at hy
 exact ⟨_, hy, rfl⟩
theorem zcj (st : Store) : Disj Store.empty st := fun b hb => (hb.elim (fun h => h rfl) (fun h => h rfl) : False).elim
theorem yof (st : Store) : Disj Store.empty st := fun b hb => (hb.elim (fun h => h rfl) (fun h => h rfl) : False).elim
theorem zpf (l : List UInt8) (hl : l.length <= 1000000000) (st : Store) (R : AV -> Store -> Prop) (h : ∀ v N, RowsQ 1 u8C N v l -> Disj N st -> R v (N.un st)) : ACalls Tryz.prog 171 [byts l] st R := by
 refine ACalls.of_body (c := cfg 8) zc Tryz.func171 (by rfl) (by rfl) (by rfl) (by rfl) ?_
 intro b hb
 cases b with
 | true =>
  have : l = [] := by
   have := congrArg List.length (hb rfl)
   rw [zi] at this
   exact List.eq_nil_of_length_eq_zero this
  subst this
  have := h (.s (.slice none 0 0)) Store.empty (.inl (.inl ⟨rfl, rfl⟩)) (yof st)
  rw [xf] at this
  exact ret this
 | false =>
  refine ⟨by decide, ?_⟩
  exact zhd (ie := ti5) rfl zpw (by decide) hl (fun v N hv hd => ret (h v N hv hd))
theorem zpg (l : List Bld) (hl : l.length <= 1000000000) (st : Store) (R : AV -> Store -> Prop) (h : ∀ v N, RowsQ 6 bldC N v l -> Disj N st -> R v (N.un st)) : ACalls Tryz.prog 117 [lst 6 bldC l] st R := by
 refine ACalls.of_body (c := cfg 8) zc Tryz.func117 (by rfl) (by rfl) (by rfl) (by rfl) ?_
 intro b hb
 cases b with
 | true =>
  have : l = [] := by
   have := congrArg List.length (hb rfl)
   rw [zi] at this
   exact List.eq_nil_of_length_eq_zero this
  subst this
  have := h (.s (.slice none 0 0)) Store.empty (.inl (.inl ⟨rfl, rfl⟩)) (yof st)
  rw [xf] at this
  exact ret this
 | false =>
  refine ⟨by decide, ?_⟩
  exact zhd (ie := ti145) rfl zng (by decide) hl (fun v N hv hd => ret (h v N hv hd))
theorem zpe (l : List Unt) (hl : l.length <= 1000000000) (st : Store) (R : AV -> Store -> Prop) (h : ∀ v N, RowsQ 10 untC N v l -> Disj N st -> R v (N.un st)) : ACalls Tryz.prog 118 [lst 10 untC l] st R := by
 refine ACalls.of_body (c := cfg 8) zc Tryz.func118 (by rfl) (by rfl) (by rfl) (by rfl) ?_
 intro b hb
 cases b with
 | true =>
  have : l = [] := by
   have := congrArg List.length (hb rfl)
   rw [zi] at this
   exact List.eq_nil_of_length_eq_zero this
  subst this
  have := h (.s (.slice none 0 0)) Store.empty (.inl (.inl ⟨rfl, rfl⟩)) (yof st)
  rw [xf] at this
  exact ret this
 | false =>
  refine ⟨by decide, ?_⟩
  exact zhd (ie := ti51) rfl y5 (by decide) hl (fun v N hv hd => ret (h v N hv hd))
theorem zw0 (g : Gnd) (hg : g.T.length <= 1000000000) (st : Store) (R : AV -> Store -> Prop) (h : ∀ v N, RowsQ 1 u8C N v g.T -> Disj N st -> R (.agg [int g.W, int g.H, v]) (N.un st)) : ACalls Tryz.prog 116 [.agg (gndC g)] st R := by
 refine ACalls.of_body (c := cfg 8) zc Tryz.func116 (by rfl) (by rfl) (by rfl) (by rfl) ?_
 refine zpf g.T hg _ _ (fun v N hv hd => ?_)
 obtain ⟨oa, cap, hv2, _⟩ := hv.form
 subst hv2
 exact ret (h _ N hv hd)
def wld3 (w : Wld) (vT vB vU : AV) : List AV := [int w.tick, int w.players, int w.next, int w.G.W, int w.G.H, vT, vB, vU]
/-- A world in memory of its own, part by part. -/
structure OwnQ (S : Store) (w : Wld) (vT vB vU : AV) (NT NB NU : Store) : Prop where
 e : S = NU.un (NB.un NT)
 rT : RowsQ 1 u8C NT vT w.G.T
 rB : RowsQ 6 bldC NB vB w.B
 rU : RowsQ 10 untC NU vU w.U
 dB : Disj NB NT
 dU : Disj NU (NB.un NT)
theorem zvq (w : Wld) (hT : w.G.T.length <= 1000000000) (hB : w.B.length <= 1000000000) (hU : w.U.length <= 1000000000) (R : AV -> Store -> Prop)
  (h : ∀ S vT vB vU NT NB NU, OwnQ S w vT vB vU NT NB NU -> R (.agg (wld3 w vT vB vU)) S) : ACalls Tryz.prog 74 [.agg (wldC w)] Store.empty R := by
 refine ACalls.of_body (c := cfg 16) zc Tryz.func74 (by rfl) (by rfl) (by rfl) (by rfl) ?_
 refine ADraw.of_sched zc (by rfl) (by rfl) ym3 (by rfl) ?_
 refine ⟨zw0 w.G hT _ _ (fun vT NT rT _ => ⟨(by repeat (first | exact Tv | refine ⟨rfl, ?_⟩ | refine ⟨optR (optR (optR (za _ (zb _ _ _) rfl))), ?_⟩)), ?_⟩), Tv⟩
 rw [zcn]
 refine ⟨zpg w.B hB _ _ (fun vB NB rB dB => ⟨(by repeat (first | exact Tv | refine ⟨rfl, ?_⟩ | refine ⟨optR (optR (optR (za _ (zb _ _ _) rfl))), ?_⟩)), ?_⟩), Tv⟩
 refine ⟨zpe w.U hU _ _ (fun vU NU rU dU => ⟨(by repeat (first | exact Tv | refine ⟨rfl, ?_⟩ | refine ⟨optR (optR (optR (za _ (zb _ _ _) rfl))), ?_⟩)), ?_⟩), Tv⟩
 have ho : OwnQ (NU.un (NB.un NT)) w vT vB vU NT NB NU := ⟨rfl, rT, rB, rU, dB, dU⟩
 obtain ⟨_, _, e1, _⟩ := rT.form
 obtain ⟨_, _, e2, _⟩ := rB.form
 obtain ⟨_, _, e3, _⟩ := rU.form
 subst e1 e2 e3
 refine ⟨⟨(by repeat (first | exact Tv | refine ⟨rfl, ?_⟩ | refine ⟨optR (optR (optR (za _ (zb _ _ _) rfl))), ?_⟩)), ?_⟩, Tv⟩
 refine ⟨⟨(by repeat (first | exact Tv | refine ⟨rfl, ?_⟩ | refine ⟨optR (optR (optR (za _ (zb _ _ _) rfl))), ?_⟩)), ?_⟩, Tv⟩
 refine ⟨⟨(by repeat (first | exact Tv | refine ⟨rfl, ?_⟩ | refine ⟨optR (optR (optR (za _ (zb _ _ _) rfl))), ?_⟩)), ?_⟩, Tv⟩
 exact ret (h _ _ _ _ _ _ _ ho)
theorem yh2 {S NT NB NU : Store} {w : Wld} {vT vB vU : AV} (h : OwnQ S w vT vB vU NT NB NU) : RowsQ 1 u8C S vT w.G.T /\ RowsQ 6 bldC S vB w.B /\ RowsQ 10 untC S vU w.U := by
 have h1 := h.rT
 have h2 := h.rB.unL h.dB
 rw [h.e]
 exact ⟨(h1.un (a := NB)).un, h2.un, h.rU.unL h.dU⟩
theorem za5 {a b : Store} {i : Nat} (h : (a.un b).obj i = none) : a.obj i = none /\ b.obj i = none := by
 unfold Store.un at h
 dsimp only at h
 cases hb : b.obj i with
 | none => rw [hb] at h; exact ⟨h, rfl⟩
 | some y => rw [hb] at h; cases h
/-- A copy whose units alone may be written. -/
theorem zvp (w : Wld) (hT : w.G.T.length <= 1000000000) (hB : w.B.length <= 1000000000) (hU : w.U.length <= 1000000000) (R : AV -> Store -> Prop)
  (h : ∀ v N, RowsQ 10 untC N v w.U -> R (.agg (wldV w v)) N) : ACalls Tryz.prog 74 [.agg (wldC w)] Store.empty R := by
 refine (zvq w hT hB hU (fun r S => ∃ vT vB vU NT NB NU, OwnQ S w vT vB vU NT NB NU /\ r = .agg (wld3 w vT vB vU)) fun S vT vB vU NT NB NU ho => ⟨vT, vB, vU, NT, NB, NU, ho, rfl⟩).frozenTo ?_
 rintro r S ⟨vT, vB, vU, NT, NB, NU, ho, rfl⟩
 have hk : ∃ N2 : Store, RowsQ 10 untC N2 vU w.U /\ (∀ b x, N2.obj b = some x -> NU.obj b = some x) /\ (∀ b x, N2.tok b ≠ some x) := by
  refine ⟨⟨NU.obj, fun _ => none⟩, ho.rU.sub fun _ _ _ _ => rfl, fun b x hx => hx, fun b x => by simp⟩
 obtain ⟨N2, hN, hsub, htok⟩ := hk
 refine ⟨.agg (wldV w vU), N2, h vU N2 hN, fun b x hx => ?_, htok, fun Oth M W v sto hx => ?_⟩
 ·rw [ho.e]
  exact un_l ho.dU (hsub b x hx)
 ·obtain ⟨rT, rB, rU⟩ := yh2 ho
  cases hx with
  | agg _ c hl hc =>
   have mono1 : ∀ {x : AV} {v : Value}, VRel W (fun b o => M b o \/ Oth b o) x v -> VRel W (fun b o => (M b o \/ Oth b o) /\ (S.obj b = none \/ N2.obj b ≠ none)) x v := fun h => h.mono fun _ _ h => h.1
   have mono2 : ∀ {x : AV} {v : Value} {Z : Store}, (∀ b, N2.obj b ≠ none -> Z.obj b = none) -> (∀ b, S.obj b = none -> Z.obj b = none) -> VRel W (fun b o => (M b o \/ Oth b o) /\ Z.obj b = none) x v -> VRel W (fun b o => (M b o \/ Oth b o) /\ (S.obj b = none \/ N2.obj b ≠ none)) x v := fun hz1 hz2 h => h.mono fun b _ h => ⟨h.1, h.2.elim (hz2 b) (hz1 b)⟩
   have hS : ∀ b, S.obj b = none -> NU.obj b = none /\ NB.obj b = none /\ NT.obj b = none := fun b hb => by
    rw [ho.e] at hb
    obtain ⟨h1, h2⟩ := za5 hb
    exact ⟨h1, (za5 h2).1, (za5 h2).2⟩
   have hN2 : ∀ b, N2.obj b ≠ none -> NB.obj b = none /\ NT.obj b = none := fun b hb => by
    cases hx : N2.obj b with
    | none => exact absurd hx hb
    | some y =>
     have h1 := js (hsub b y hx)
     have h2 := v8 (ho.dU b h1)
     exact ⟨(za5 h2.1).1, (za5 h2.1).2⟩
   have sNB : StoreOK NB Oth M W := sto.weaken ⟨fun b x hx => by rw [ho.e]; exact un_r (un_l ho.dB hx), fun b x hx => by rw [ho.e]; exact zld (yj9 ho.dB hx)⟩
   have sNT : StoreOK NT Oth M W := sto.weaken ⟨fun b x hx => by rw [ho.e]; exact un_r (un_r hx), fun b x hx => by rw [ho.e]; exact zld (zld hx)⟩
   refine .agg _ c hl fun i x y hx hy => ?_
   match i with
   | 0 => simp only [wldV, List.getElem?_cons_zero, Option.some.injEq] at hx; subst hx; exact mono1 (hc 0 _ y rfl hy)
   | 1 => simp only [wldV, List.getElem?_cons_succ, List.getElem?_cons_zero, Option.some.injEq] at hx; subst hx; exact mono1 (hc 1 _ y rfl hy)
   | 2 => simp only [wldV, List.getElem?_cons_succ, List.getElem?_cons_zero, Option.some.injEq] at hx; subst hx; exact mono1 (hc 2 _ y rfl hy)
   | 3 => simp only [wldV, List.getElem?_cons_succ, List.getElem?_cons_zero, Option.some.injEq] at hx; subst hx; exact mono1 (hc 3 _ y rfl hy)
   | 4 => simp only [wldV, List.getElem?_cons_succ, List.getElem?_cons_zero, Option.some.injEq] at hx; subst hx; exact mono1 (hc 4 _ y rfl hy)
   | 5 => simp only [wldV, List.getElem?_cons_succ, List.getElem?_cons_zero, Option.some.injEq] at hx; subst hx; exact mono2 (fun b hb => (hN2 b hb).2) (fun b hb => (hS b hb).2.2) (ho.rT.borrow zpw yox sNT (hc 5 _ y rfl hy))
   | 6 => simp only [wldV, List.getElem?_cons_succ, List.getElem?_cons_zero, Option.some.injEq] at hx; subst hx; exact mono2 (fun b hb => (hN2 b hb).1) (fun b hb => (hS b hb).2.1) (ho.rB.borrow zng yoj sNB (hc 6 _ y rfl hy))
   | 7 => simp only [wldV, List.getElem?_cons_succ, List.getElem?_cons_zero, Option.some.injEq] at hx; subst hx; exact mono1 (hc 7 _ y rfl hy)
   | i + 8 => simp [wldV] at hx
end Go.Proofs
namespace Go.Proofs
open Go Go.V
set_option maxRecDepth 4000
theorem zt5 {F G : Store} {mb s p : Nat} {w : Wld} {v : AV} {L : List Ent} {o0 o1 o2 : AV} (hW : Mover F G mb s p w v L o0 o1 o2) (hmay : mayP w) (hn : ∀ u ∈ w.U, u.pos.ok) {i : Nat} (hi : i < w.U.length) (h0 : w.U[i].inn = 0) (R : AV -> Store -> Prop)
  (h : ∀ F' G' L' q0 q1 q2, Mover F' G' mb s p (vi w w.U[i]) v L' q0 q1 q2 -> R (.tup []) (F'.un (svS G' s (vi w w.U[i]) v q0 q1 q2 p))) :
  ACalls Tryz.prog 44 [ptr mb, .agg (untC w.U[i])] (F.un (svS G s w v o0 o1 o2 p)) R := by
 unfold vi at h
 refine ACalls.of_body (c := cfg 13) zc Tryz.func44 (by rfl) (by rfl) (by rfl) (by rfl) ?_
 refine bceq (fun c1 => ?_) (fun c1 => ?_)
 ·rw [if_pos c1] at h
  exact zws hW (mayF hmay) hn (fun u hu h1 => za8 hmay hu h1) hi h0 _ (fun F3 G3 L3 a0 a1 a2 hW3 => ret (h F3 G3 L3 a0 a1 a2 hW3))
 ·rw [if_neg c1] at h
  exact zw7 hW hmay hn hi h0 c1 _ (fun F3 G3 L3 a0 a1 a2 hW3 => ret (h F3 G3 L3 a0 a1 a2 hW3))
open Classical in
/-- What a mover is told of a unit that is asked. -/
noncomputable def askM (w : Wld) (id : Int) : Int := if mayP w then (match w.U.find? (fun u => u.id == id) with | none => 3 | some u => if u.inn = 0 then 0 else 9) else 1
theorem zq1 {w : Wld} {id : Int} (h : ¬ mayP w) : askM w id = 1 := by unfold askM; rw [if_neg h]
theorem zxg {l : List Unt} (hr : yf l) {i : Nat} (hi : i < l.length) : l.find? (fun u => u.id == l[i].id) = some l[i] := by
 rw [List.find?_eq_some_iff_getElem]
 refine ⟨by simp, i, hi, rfl, fun j hj => ?_⟩
 have := xd hr hj hi
 rw [Bool.not_eq_true', beq_eq_false_iff_ne]
 omega
theorem zkw {w : Wld} (h : mayP w) {i : Nat} (hi : i < w.U.length) : askM w w.U[i].id = if w.U[i].inn = 0 then 0 else 9 := by
 unfold askM
 rw [if_pos h, zxg h.1.2.1 hi]
theorem znk {w : Wld} {id : Int} (h : mayP w) (hn : ∀ u ∈ w.U, u.id ≠ id) : askM w id = 3 := by
 unfold askM
 rw [if_pos h, List.find?_eq_none.2 (fun u hu => by simpa using hn u hu)]
def unt0 : List AV := [int 0, int 0, int 0, int 0, int 0, int 0, int 0, int 0, int 0, int 0]
set_option maxHeartbeats 2000000 in
set_option maxRecDepth 20000 in
theorem ztj (w : Wld) (hw : w.fits) (hn : ∀ u ∈ w.U, u.pos.ok) (hT : w.G.T.length <= 1000000) (hB : w.B.length <= 1000000) (hU : w.U.length <= 1000000) (id : Int) (R : AV -> Store -> Prop)
  (hbad : ∀ S, askM w id ≠ 0 -> R (.tup [.s (.pointer none), .agg unt0, int (askM w id)]) S)
  (hok : ∀ i, (hi : i < w.U.length) -> mayP w -> w.U[i].id = id -> w.U[i].inn = 0 -> ∀ F G mb s p v L o0 o1 o2, Mover F G mb s p w v L o0 o1 o2 -> R (.tup [ptr mb, .agg (untC w.U[i]), int 0]) (F.un (svS G s w v o0 o1 o2 p))) :
  ACalls Tryz.prog 43 [.agg (wldC w), int id] Store.empty R := by
 refine ACalls.of_body (c := cfg 47 [20] []) zc Tryz.func43 (by rfl) (by rfl) (by rfl) (by rfl) ?_
 refine yie w hw hn _ _ (fun z hz => ?_)
 refine yk ?_
 refine zd (fun c1 => ?_) (fun c1 => ?_)
 rotate_left
 ·have hnm : ¬ mayP w := fun hh => by rw [hz.2 hh] at c1; cases c1
  have e := zq1 (id := id) hnm
  have := hbad Store.empty (by rw [e]; decide)
  rw [e] at this
  exact ret this
 have hm := hz.1 c1
 have hr : yf w.U := hm.1.2.1
 refine zvp w (by omega) (by omega) (by omega) _ (fun v N hu => ?_)
 refine zse w v N hu hU hn _ (fun F s p L o0 o1 o2 hs hS hLl hmem => ?_)
 refine zpo rfl (it := ti147) rfl rfl ?_
 intro mb hmb
 have hnF : ¬ F.has mb /\ ¬ (svS N s w v o0 o1 o2 p).has mb := by
  have := fresh_iff.1 hmb
  exact ⟨fun hh => this (un_has.2 (.inl hh)), fun hh => this (un_has.2 (.inr hh))⟩
 have hms : mb ≠ s := fun e => hnF.2 (svS_has.2 (.inl e))
 have hmN : ¬ N.has mb := fun hh => hnF.2 (svS_has.2 (.inr hh))
 have hmN0 : N.obj mb = none := (v8 hmN).1
 have omb : offB v mb := zil hu hmN0
 have oms : offB v s := zil hu hS.hs
 have e0 : (F.un (svS N s w v o0 o1 o2 p)).setObj mb (.cells [ptr s, za3]) = F.un (svS (N.setObj mb (.cells [ptr s, za3])) s w v o0 o1 o2 p) := by
  rw [zq]
  unfold svS
  rw [jk hms]
 have hW : Mover F (N.setObj mb (.cells [ptr s, za3])) mb s p w v L o0 o1 o2 :=
  ⟨⟨hS.hc, fun i h1 h2 => by
    rcases svS_has.1 h2 with h2 | h2
    ·exact hS.hd i h1 (svS_has.2 (.inl h2))
    ·rcases has_setObj_iff.1 h2 with h2 | h2
     ·subst h2; exact hnF.1 h1
     ·exact hS.hd i h1 (svS_has.2 (.inr h2)), by rw [zf (Ne.symm hms)]; exact hS.hs, hu.set omb _, hS.h0, hS.h1, hS.h2⟩, zb _ _ _, omb, oms, hLl, hmem hr⟩
 have e1 : (F.un (svS N s w v o0 o1 o2 p)).setObj mb (AObj.cells [AV.s (Value.pointer (some { block := s, off := 0 })), AV.s (Value.iface 147 (Value.agg #[]))]) = F.un (svS (N.setObj mb (.cells [ptr s, za3])) s w v o0 o1 o2 p) := e0
 refine zkv w.U (by omega) hr id _ _ (fun i hi z hz2 => ?_)
 rw [e1]
 refine yk ?_
 refine zd (fun c2 => ?_) (fun c2 => ?_)
 rotate_left
 ·have e := znk (id := id) hm (fun u hu' e => by
   obtain ⟨j, hj, rfl⟩ := List.getElem_of_mem hu'
   have hij : i = j := by
    by_cases h1 : j < i
    ·have := hi.2.1 j hj h1; omega
    ·by_cases h2 : i < j
     ·have h3 := hi.2.2 i (by omega) (Nat.le_refl _)
      have := xd hr h2 hj
      omega
     ·omega
   subst hij
   rw [hz2.2 ⟨hj, e⟩] at c2
   cases c2)
  have := hbad (F.un (svS (N.setObj mb (.cells [ptr s, za3])) s w v o0 o1 o2 p)) (by rw [e]; decide)
  rw [e] at this
  exact ret this
 obtain ⟨hil, hid⟩ := hz2.1 c2
 have e := zkw hm hil
 rw [hid] at e
 refine ⟨i, rfl, za _ (zh hil) ?_⟩
 refine bcne (fun c3 => ?_) (fun c3 => ?_)
 ·rw [if_neg c3] at e
  have := hbad (F.un (svS (N.setObj mb (.cells [ptr s, za3])) s w v o0 o1 o2 p)) (by rw [e]; decide)
  rw [e] at this
  exact ret this
 refine ADraw.of_sched zc (by rfl) (by rfl) ynh (by rfl) ?_
 refine ⟨i, rfl, za _ (zh hil) ?_⟩
 refine ⟨⟨(by repeat (first | exact Tv | refine ⟨rfl, ?_⟩ | refine ⟨⟨i, rfl, za _ (zh hil) rfl⟩, ?_⟩)), ⟨⟨Tv, ⟨⟨Tv, ?_⟩, Tv⟩⟩, Tv⟩⟩, Tv⟩
 exact ret (hok i hil hm hid c3 F (N.setObj mb (.cells [ptr s, za3])) mb s p v L o0 o1 o2 hW)
def wld0 : List AV := [int 0, int 0, int 0, int 0, int 0, nil, nil, nil]
open Classical in
/-- What becomes of a world when a unit is asked to go. -/
noncomputable def zfq (w : Wld) (id : Int) : Wld := match w.U.find? (fun u => u.id == id) with | none => w | some u => vi w u
theorem zjf {w : Wld} (hr : yf w.U) {i : Nat} (hi : i < w.U.length) : zfq w w.U[i].id = vi w w.U[i] := by
 unfold zfq
 rw [zxg hr hi]
set_option maxHeartbeats 2000000 in
theorem zv7 (w : Wld) (hw : w.fits) (hn : ∀ u ∈ w.U, u.pos.ok) (hT : w.G.T.length <= 1000000) (hB : w.B.length <= 1000000) (hU : w.U.length <= 1000000) (id : Int) (R : AV -> Store -> Prop)
  (hbad : ∀ S, askM w id ≠ 0 -> R (.tup [.agg wld0, int (askM w id)]) S)
  (hok : ∀ S v, askM w id = 0 -> RowsQ 10 untC S v (zfq w id).U -> R (.tup [.agg (wldV (zfq w id) v), int 0]) S) :
  ACalls Tryz.prog 15 [.agg (wldC w), int id] Store.empty R := by
 refine ACalls.of_body (c := cfg 30) zc Tryz.func15 (by rfl) (by rfl) (by rfl) (by rfl) ?_
 refine ztj w hw hn hT hB hU id _ (fun S he => ?_) (fun i hi hm hid h0 F G mb s p v L o0 o1 o2 hW => ?_)
 ·refine bcne (fun c1 => ?_) (fun c1 => absurd c1 he)
  exact ret (hbad S he)
 have e := zkw hm hi
 rw [if_pos h0, hid] at e
 have e2 := zjf (w := w) hm.1.2.1 hi
 rw [hid] at e2
 rw [e2] at hok
 refine zt5 hW hm hn hi h0 _ (fun F' G' L' q0 q1 q2 hW2 => ?_)
 generalize vi w w.U[i] = w2 at *
 obtain ⟨oa, cap, ev, _⟩ := hW2.S.hu.form
 subst ev
 refine za (o := (F'.un (svS G' s w2 _ q0 q1 q2 p)).obj mb) _ hW2.m ?_
 refine za (o := (F'.un (svS G' s w2 _ q0 q1 q2 p)).obj s) _ hW2.s ?_
 exact ret (hok _ _ e (zjk hW2.S.hs hW2.S.hu).un)
end Go.Proofs
namespace Go.Proofs
open Go Go.V
set_option maxRecDepth 4000
theorem zv8 (w : Wld) (hw : w.fits) (hn : ∀ u ∈ w.U, u.pos.ok) (hT : w.G.T.length <= 1000000) (hB : w.B.length <= 1000000) (hU : w.U.length <= 1000000) (id : Int) :
  ACalls Tryz.prog 15 [.agg (wldC w), int id] Store.empty fun r _ => (askM w id ≠ 0 /\ r = .tup [.agg wld0, int (askM w id)]) \/ (askM w id = 0 /\ r = .tup [.agg (wldC (zfq w id)), int 0]) := by
 refine (zv7 w hw hn hT hB hU id (fun r S => (askM w id ≠ 0 /\ r = .tup [.agg wld0, int (askM w id)]) \/ (askM w id = 0 /\ ∃ v, RowsQ 10 untC S v (zfq w id).U /\ r = .tup [.agg (wldV (zfq w id) v), int 0])) (fun S he => .inl ⟨he, rfl⟩) (fun S v he hv => .inr ⟨he, v, hv, rfl⟩)).frozen ?_
 rintro r S (⟨he, rfl⟩ | ⟨he, v, hv, rfl⟩)
 ·exact ⟨_, .inl ⟨he, rfl⟩, fun Oth M W x sto hx => yd hx⟩
 ·refine ⟨_, .inr ⟨he, rfl⟩, fun Oth M W x sto hx => ?_⟩
  cases hx with
  | tup _ c hl hc =>
   refine .tup _ c hl fun i y z hy hz => ?_
   match i with
   | 0 => simp only [List.getElem?_cons_zero, Option.some.injEq] at hy; subst hy; exact kp hv sto (hc 0 _ z rfl hz)
   | 1 => simp only [List.getElem?_cons_succ, List.getElem?_cons_zero, Option.some.injEq] at hy; subst hy; exact yd (hc 1 _ z rfl hz)
   | i + 2 => simp at hy
theorem zio (w : Wld) (hw : w.fits) (hn : ∀ u ∈ w.U, u.pos.ok) (hT : w.G.T.length <= 1000000) (hB : w.B.length <= 1000000) (hU : w.U.length <= 1000000) (id : Int) (st : Store) (R : AV -> Store -> Prop)
  (hbad : askM w id ≠ 0 -> R (.tup [.agg wld0, int (askM w id)]) st) (hok : askM w id = 0 -> R (.tup [.agg (wldC (zfq w id)), int 0]) st) :
  ACalls Tryz.prog 15 [.agg (wldC w), int id] st R :=
 ypp (zv8 w hw hn hT hB hU id) st R fun r hr => by
  rcases hr with ⟨he, rfl⟩ | ⟨he, rfl⟩
  ·exact hbad he
  ·exact hok he
end Go.Proofs
