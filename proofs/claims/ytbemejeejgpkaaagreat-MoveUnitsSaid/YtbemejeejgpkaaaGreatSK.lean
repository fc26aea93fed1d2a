/- The ground on which laws of thronglaw24 are proved: contracts of functions and plain lemmas; no condition beyond the row's own. -/
import Derived.Test.YtbemejeejgpkaaaGreatVJ
import Derived.Test.YtbemejeejgpkaaaGreatVK
import Derived.Test.YtbemejeejgpkaaaGreatSJ
import Derived.Test.YtbemejeejgpkaaaGreatVC
import Derived.Test.YtbemejeejgpkaaaGreatSC
set_option linter.unusedSimpArgs false
set_option linter.unusedVariables false
namespace Go.Proofs
open Go Go.V
set_option maxRecDepth 4000
theorem zim (e : Int) (st : Store) (R : AV -> Store -> Prop) (h : R (int e) st) : ACalls Tryz.prog 16 [int e] st R := by
 refine ACalls.of_body (c := cfg 4) zc Tryz.func16 (by rfl) (by rfl) (by rfl) (by rfl) ?_
 exact ret h
theorem yj2 {n : Nat} (hn : n < 6) : ∃ h0 : 0 < (wkS n).U.length, (wkS n).U[0] = oneU (wkS n) := by
 have e := (zee n hn).1
 have h0 : 0 < (wkS n).U.length := by rw [e]; exact Nat.zero_lt_one
 refine ⟨h0, ?_⟩
 simp only [e]
 rfl
theorem you {n : Nat} (hn : n < 6) : askM (wkS n) 1 = 0 := by
 obtain ⟨h0, e⟩ := yj2 hn
 obtain ⟨_, h1, h2, _⟩ := zee n hn
 have := zkw (zpq n hn) h0
 rw [e, h1, if_pos h2] at this
 exact this
theorem yp4 {n : Nat} (hn : n < 5) : zfq (wkS n) 1 = wkS (n + 1) := by
 obtain ⟨h0, e⟩ := yj2 (n := n) (by omega)
 obtain ⟨_, h1, _⟩ := zee n (by omega)
 have := zjf (zpq n (by omega)).1.2.1 h0
 rw [e, h1, yj1 hn] at this
 exact this
theorem yoq {n : Nat} (hn : n < 6) : ∀ u ∈ (wkS n).U, u.pos.ok := fun u hu => by
 obtain ⟨_, h1, h2, h3, _⟩ := zee n hn
 have hu2 : u.inn = 0 := by
  rw [(zee n hn).1] at hu
  simp at hu
  rw [hu]
  exact h2
 exact xy (za8 (zpq n hn) hu hu2)
theorem znb (g : Gnd) (hg : gndP g) (t : Nat) (ht : t < g.T.length) (tI : Int) (htI : tI = (t : Int)) {x : Vc} (hx : cenV g t = x) (st : Store) (R : AV -> Store -> Prop) (h : R (.agg (vecC x)) st) : ACalls Tryz.prog 28 [.agg (gndC g), int tI] st R :=
 ju g hg t ht tI htI st R (hx ▸ h)
def wldB (w : Wld) (b : AV) : List AV := [int w.tick, int w.players, int w.next, int w.G.W, int w.G.H, byts w.G.T, b, lst 10 untC w.U]
theorem yj0 {w : Wld} {b : AV} (hb : AV.le b (lst 6 bldC w.B)) : AV.le (.agg (wldB w b)) (.agg (wldC w)) :=
 AV.le_aggL ⟨Tt, Tt, Tt, Tt, Tt, Tt, hb, Tt, Tv⟩
set_option maxHeartbeats 2000000 in
set_option maxRecDepth 20000 in
theorem zef (st : Store) (R : AV -> Store -> Prop) (h : R (V.bool true) st) : ACalls Tryz.prog 19 [] st R := by
 refine ACalls.of_awp (c := cfg 50) zc Tryz.func19 (by rfl) (by rfl) (by rfl) (by rfl) ?_
 refine AWp.seq (AWp.of_vc zc ?_)
 refine AWp.seq (AWp.of_vc zc ?_)
 refine qa rfl (it := ti22) (ie := ti5) rfl rfl rfl rfl rfl (n := 2) (by decide) (by decide) (fun b hf => ?_)
 refine AWp.freezeBx (d := 1) (j := 5) (b := b) (n := 2) (cap := 2) (k := 1) (rows := rws u8C wkG.T) (pad := []) rfl rfl (zb _ _ _) hf.2 rfl (Nat.le_refl _) ?_ ?_ ?_
 ·intro row hr
  obtain ⟨x, _, rfl⟩ := List.mem_map.1 hr
  rfl
 ·intro row hr y hy
  obtain ⟨x, _, rfl⟩ := List.mem_map.1 hr
  simp [u8C, u8] at hy
  exact ⟨_, hy, rfl⟩
 rw [xc hf.1]
 refine AWp.of_vc zc ?_
 refine znb wkG yjf 0 (by decide) 0 rfl yot _ _ ?_
 refine ⟨by decide, ?_⟩
 refine AWp.loop (σ := Nat × AV) ⟨fun x => [(1, .bx 1 0), (2, .av (int (x.1 : Nat)))], fun x => [(1, wldB (wkS x.1) x.2)],
  fun x st' => x.1 <= 5 /\ st' = st /\ AV.le x.2 (lst 6 bldC (wkS x.1).B), fun x => 5 - x.1⟩ zc ?_ ?_
 ·exact ⟨(0, nil), Tv, ⟨Nat.zero_le _, rfl, AV.le_nil 6⟩, ⟨Tq, Tq, Tv⟩, ⟨rfl, Tv⟩⟩
 rintro ⟨i, bv⟩ st' ⟨hi, rfl, hb⟩
 dsimp only at hi hb ⊢
 refine bcd (fun c1 => ?_) (fun c1 => ?_)
 ·have hi5 : i < 5 := by omega
  obtain ⟨u1, u2, u3, u4, u5⟩ := zee i (by omega)
  obtain ⟨v1, v2, v3, v4, v5⟩ := zee (i + 1) (by omega)
  refine ACalls.le (show leL [.agg (wldB (wkS i) bv), int 1] [.agg (wldC (wkS i)), int 1] from ⟨yj0 hb, Tt, Tv⟩) (zio (wkS i) (mayF (zpq i (by omega))).fits (yoq (by omega)) (by rw [u4]; decide) (by rw [u5]; decide) (by rw [u1]; exact (by decide : 1 <= 1000000)) 1 _ _ (fun he => absurd (you (by omega)) he) (fun _ => ?_))
  rw [yp4 hi5]
  refine zim _ _ _ ?_
  refine bcne (fun c2 => absurd (show ((rws untC (wkS (i + 1)).U).length : Int) = 1 by rw [zi, v1]; rfl) c2) (fun c2 => ?_)
  refine in64 (by omega) ?_
  refine ⟨(i + 1, lst 6 bldC (wkS (i + 1)).B), ?_, ⟨by dsimp only; omega, rfl, Tt⟩, ⟨Tq, Tq, Tv⟩, ⟨rfl, Tv⟩⟩
  show 5 - (i + 1) < 5 - i
  omega
 have : i = 5 := by omega
 subst this
 obtain ⟨h0, e0⟩ := yj2 (n := 5) (by decide)
 obtain ⟨e1, e2⟩ := yos
 obtain ⟨u1, u2, u3, u4, u5⟩ := zee 5 (by omega)
 refine ADraw.of_sched zc (by rfl) (by rfl) ygk (by rfl) ?_
 refine ⟨0, rfl, za _ (zh h0) ?_⟩
 refine ⟨znb (wkS 5).G (u4 ▸ yjf) 1 (by rw [u4]; decide) 1 rfl rfl _ _ ⟨(by repeat (first | exact Tv | refine ⟨rfl, ?_⟩ | refine ⟨optR (optR (optR (za _ (zb _ _ _) rfl))), ?_⟩)), ?_⟩, Tv⟩
 have hp : (wkS 5).U[0].pos = cenV (wkS 5).G 1 := by rw [e0, u4]; exact e1
 have hs : (wkS 5).U[0].state = 2 := by rw [e0]; exact e2
 refine ⟨0, rfl, za _ (zh h0) ?_⟩
 exact ⟨⟨Tv, ret h⟩, Tv⟩
end Go.Proofs
namespace Go.Proofs
open Go Go.V
set_option maxRecDepth 4000
theorem zi6 {n : Int} (h : (Lit.int .i64 n).wf = true) : yi n := by
 simp [Lit.wf, IntKind.min, IntKind.max, IntKind.signed, IntKind.bits] at h
 unfold yi
 omega
theorem zmk : Codec Tryz.prog 2 Int intC yi := (Codec.int Tryz.underlying2).weaken fun _ h => zi6 h
theorem yg : Codec Tryz.prog 3 Int intC yi := (Codec.int Tryz.underlying3).weaken fun _ h => zi6 h
theorem zpk : Codec Tryz.prog 22 (List UInt8) (fun l => [byts l]) (fun l => l.length <= 140737488355328) :=
 (Codec.slice Tryz.underlying22 (k := 1) (by kernel_rfl) (by decide) (of_decide_eq_true (by kernel_rfl)) (Codec.byte Tryz.underlying5)).weaken fun _ h => h.2
theorem zsl : Codec Tryz.prog 29 (List Int) (fun l => [ints l]) (fun l => l.length <= 140737488355328 /\ ∀ n ∈ l, yi n) :=
 (Codec.slice Tryz.underlying29 (k := 1) (by kernel_rfl) (by decide) (of_decide_eq_true (by kernel_rfl)) yg).weaken fun _ h => ⟨h.2, h.1⟩
theorem zk8 : Codec Tryz.prog 49 Vc vecC Vc.ok := by
 refine ⟨fun {H} enc w base held fuel cs x hx hw => ?_⟩
 have hu := Tryz.underlying49
 have hl : cs.length = 2 := (kl hu hx).trans (by kernel_rfl)
 obtain ⟨a0, q0, h0⟩ := zl hu hx hw 0 0 1 rfl rfl (by kernel_rfl) zmk
 obtain ⟨a1, q1, h1⟩ := zl hu hx hw 1 1 1 rfl rfl (by kernel_rfl) zmk
 refine ⟨(a0, a1), ⟨q0, q1⟩, ?_⟩
 have := h0.cons rfl (h1.cons rfl (CellsOK.stop hl))
 rw [List.drop_zero] at this
 exact this
theorem zrc : Codec Tryz.prog 30 (List Vc) (fun l => [lst 2 vecC l]) (fun l => l.length <= 140737488355328 /\ ∀ v ∈ l, v.ok) :=
 (Codec.slice Tryz.underlying30 (k := 2) (by kernel_rfl) (by decide) (of_decide_eq_true (by kernel_rfl)) zk8).weaken fun _ h => ⟨h.2, h.1⟩
theorem zw8 : Codec Tryz.prog 24 Gnd gndC (fun g => g.T.length <= 140737488355328) := by
 refine ⟨fun {H} enc w base held fuel cs x hx hw => ?_⟩
 have hu := Tryz.underlying24
 have hl : cs.length = 3 := (kl hu hx).trans (by kernel_rfl)
 obtain ⟨a0, q0, h0⟩ := zl hu hx hw 0 0 1 rfl rfl (by kernel_rfl) yg
 obtain ⟨a1, q1, h1⟩ := zl hu hx hw 1 1 1 rfl rfl (by kernel_rfl) yg
 obtain ⟨a2, q2, h2⟩ := zl hu hx hw 2 2 1 rfl rfl (by kernel_rfl) zpk
 refine ⟨⟨a0, a1, a2⟩, q2, ?_⟩
 have := h0.cons rfl (h1.cons rfl (h2.cons rfl (CellsOK.stop hl)))
 rw [List.drop_zero] at this
 exact this
theorem zxz : Codec Tryz.prog 145 Bld bldC (fun _ => True) := by
 refine ⟨fun {H} enc w base held fuel cs x hx hw => ?_⟩
 have hu := Tryz.underlying145
 have hl : cs.length = 6 := (kl hu hx).trans (by kernel_rfl)
 obtain ⟨a0, q0, h0⟩ := zl hu hx hw 0 0 1 rfl rfl (by kernel_rfl) yg
 obtain ⟨a1, q1, h1⟩ := zl hu hx hw 1 1 1 rfl rfl (by kernel_rfl) yg
 obtain ⟨a2, q2, h2⟩ := zl hu hx hw 2 2 1 rfl rfl (by kernel_rfl) yg
 obtain ⟨a3, q3, h3⟩ := zl hu hx hw 3 3 1 rfl rfl (by kernel_rfl) yg
 obtain ⟨a4, q4, h4⟩ := zl hu hx hw 4 4 1 rfl rfl (by kernel_rfl) yg
 obtain ⟨a5, q5, h5⟩ := zl hu hx hw 5 5 1 rfl rfl (by kernel_rfl) yg
 refine ⟨⟨a0, a1, a2, a3, a4, a5⟩, Tv, ?_⟩
 have := h0.cons rfl (h1.cons rfl (h2.cons rfl (h3.cons rfl (h4.cons rfl (h5.cons rfl (CellsOK.stop hl))))))
 rw [List.drop_zero] at this
 exact this
theorem ztg : Codec Tryz.prog 25 (List Bld) (fun l => [lst 6 bldC l]) (fun l => l.length <= 140737488355328) :=
 (Codec.slice Tryz.underlying25 (k := 6) (by kernel_rfl) (by decide) (of_decide_eq_true (by kernel_rfl)) zxz).weaken fun _ h => h.2
theorem zt3 : Codec Tryz.prog 51 Unt untC (fun u => u.pos.ok) := by
 refine ⟨fun {H} enc w base held fuel cs x hx hw => ?_⟩
 have hu := Tryz.underlying51
 have hl : cs.length = 10 := (kl hu hx).trans (by kernel_rfl)
 obtain ⟨a0, q0, h0⟩ := zl hu hx hw 0 0 1 rfl rfl (by kernel_rfl) yg
 obtain ⟨a1, q1, h1⟩ := zl hu hx hw 1 1 1 rfl rfl (by kernel_rfl) yg
 obtain ⟨a2, q2, h2⟩ := zl hu hx hw 2 2 1 rfl rfl (by kernel_rfl) yg
 obtain ⟨a3, q3, h3⟩ := zl hu hx hw 3 3 2 rfl rfl (by kernel_rfl) zk8
 obtain ⟨a4, q4, h4⟩ := zl hu hx hw 4 5 1 rfl rfl (by kernel_rfl) yg
 obtain ⟨a5, q5, h5⟩ := zl hu hx hw 5 6 1 rfl rfl (by kernel_rfl) yg
 obtain ⟨a6, q6, h6⟩ := zl hu hx hw 6 7 1 rfl rfl (by kernel_rfl) yg
 obtain ⟨a7, q7, h7⟩ := zl hu hx hw 7 8 1 rfl rfl (by kernel_rfl) yg
 obtain ⟨a8, q8, h8⟩ := zl hu hx hw 8 9 1 rfl rfl (by kernel_rfl) yg
 refine ⟨⟨a0, a1, a2, a3, a4, a5, a6, a7, a8⟩, q3, ?_⟩
 have := h0.cons rfl (h1.cons rfl (h2.cons rfl (h3.cons rfl (h4.cons rfl (h5.cons rfl (h6.cons rfl (h7.cons rfl (h8.cons rfl (CellsOK.stop hl)))))))))
 rw [List.drop_zero] at this
 exact this
theorem zrf : Codec Tryz.prog 26 (List Unt) (fun l => [lst 10 untC l]) (fun l => l.length <= 140737488355328 /\ ∀ u ∈ l, u.pos.ok) :=
 (Codec.slice Tryz.underlying26 (k := 10) (by kernel_rfl) (by decide) (of_decide_eq_true (by kernel_rfl)) zt3).weaken fun _ h => ⟨h.2, h.1⟩
theorem ztw : Codec Tryz.prog 28 Wld wldC (fun w => ∀ u ∈ w.U, u.pos.ok) := by
 refine ⟨fun {H} enc w base held fuel cs x hx hw => ?_⟩
 have hu := Tryz.underlying28
 have hl : cs.length = 8 := (kl hu hx).trans (by kernel_rfl)
 obtain ⟨a0, q0, h0⟩ := zl hu hx hw 0 0 1 rfl rfl (by kernel_rfl) yg
 obtain ⟨a1, q1, h1⟩ := zl hu hx hw 1 1 1 rfl rfl (by kernel_rfl) yg
 obtain ⟨a2, q2, h2⟩ := zl hu hx hw 2 2 1 rfl rfl (by kernel_rfl) yg
 obtain ⟨a3, q3, h3⟩ := zl hu hx hw 3 3 3 rfl rfl (by kernel_rfl) zw8
 obtain ⟨a4, q4, h4⟩ := zl hu hx hw 4 6 1 rfl rfl (by kernel_rfl) ztg
 obtain ⟨a5, q5, h5⟩ := zl hu hx hw 5 7 1 rfl rfl (by kernel_rfl) zrf
 refine ⟨⟨a0, a1, a2, a3, a4, a5⟩, q5.2, ?_⟩
 have := h0.cons rfl (h1.cons rfl (h2.cons rfl (h3.cons rfl (h4.cons rfl (h5.cons rfl (CellsOK.stop hl))))))
 rw [List.drop_zero] at this
 exact this
theorem scr24_codec : Codec Tryz.prog 32 Scr24 zlq Scr24.good := by
 refine ⟨fun {H} enc w base held fuel cs x hx hw => ?_⟩
 have hu := Tryz.underlying32
 have hl : cs.length = 10 := (kl hu hx).trans (by kernel_rfl)
 obtain ⟨a0, q0, h0⟩ := zl hu hx hw 0 0 8 rfl rfl (by kernel_rfl) ztw
 obtain ⟨a1, q1, h1⟩ := zl hu hx hw 1 8 1 rfl rfl (by kernel_rfl) zsl
 obtain ⟨a2, q2, h2⟩ := zl hu hx hw 2 9 1 rfl rfl (by kernel_rfl) zrc
 refine ⟨⟨a0, a1, a2⟩, ⟨q0, q1.2, q2.2⟩, ?_⟩
 have := h0.cons rfl (h1.cons rfl (h2.cons rfl (CellsOK.stop hl)))
 rw [List.drop_zero] at this
 exact this
end Go.Proofs
