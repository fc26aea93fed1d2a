/- The ground on which laws of thronglaw24 are proved: contracts of functions and plain lemmas; no condition beyond the row's own. -/
import Derived.Test.YtbemejeejgpkaaaGreatVJ
import Derived.Test.YtbemejeejgpkaaaGreatVK
import Derived.Test.YtbemejeejgpkaaaGreatSJ
import Derived.Test.YtbemejeejgpkaaaGreatVC
import Derived.Test.YtbemejeejgpkaaaGreatSC
set_option linter.unusedSimpArgs false
set_option linter.unusedVariables false
namespace Go.Proofs
open Go Go.V
theorem kc (e : Int) (st : Store) (R : AV → Store → Prop) (h : R (int e) st) : ACalls Tryz.prog 16 [int e] st R := by
 refine ACalls.of_body (c := cfg 4) zc Tryz.func16 (by rfl) (by rfl) (by rfl) (by rfl) ?_
 exact ret h
theorem ycx {n : Nat} (hn : n < 6) : ∃ h0 : 0 < (wkS n).U.length, (wkS n).U[0] = oneU (wkS n) := by
 have e := (zb1 n hn).1
 have h0 : 0 < (wkS n).U.length := by rw [e]; exact Nat.zero_lt_one
 refine ⟨h0, ?_⟩
 simp only [e]
 rfl
theorem yho {n : Nat} (hn : n < 6) : askM (wkS n) 1 = 0 := by
 obtain ⟨h0, e⟩ := ycx hn
 obtain ⟨_, h1, h2, _⟩ := zb1 n hn
 have := zg8 (zlk n hn) h0
 rw [e, h1, if_pos h2] at this
 exact this
theorem yiu {n : Nat} (hn : n < 5) : vd (wkS n) 1 = wkS (n + 1) := by
 obtain ⟨h0, e⟩ := ycx (n := n) (by omega)
 obtain ⟨_, h1, _⟩ := zb1 n (by omega)
 have := zf2 (zlk n (by omega)).1.2.1 h0
 rw [e, h1, ycw hn] at this
 exact this
theorem yhk {n : Nat} (hn : n < 6) : ∀ u ∈ (wkS n).U, u.pos.ok := fun u hu => by
 obtain ⟨_, h1, h2, h3, _⟩ := zb1 n hn
 have hu2 : u.inn = 0 := by
  rw [(zb1 n hn).1] at hu
  simp at hu
  rw [hu]
  exact h2
 exact ky (zl3 (zlk n hn) hu hu2)
theorem zba (g : Gnd) (hg : gndP g) (t : Nat) (ht : t < g.T.length) (tI : Int) (htI : tI = (t : Int)) {x : Vc} (hx : cenV g t = x) (st : Store) (R : AV → Store → Prop) (h : R (.agg (vecC x)) st) : ACalls Tryz.prog 28 [.agg (gndC g), int tI] st R :=
 zld g hg t ht tI htI st R (hx ▸ h)
def wldB (w : Wld) (b : AV) : List AV := [int w.tick, int w.players, int w.next, int w.G.W, int w.G.H, byts w.G.T, b, lst 10 untC w.U]
theorem ycv {w : Wld} {b : AV} (hb : AV.le b (lst 6 bldC w.B)) : AV.le (.agg (wldB w b)) (.agg (wldC w)) :=
 AV.le_aggL ⟨ar_ _, ar_ _, ar_ _, ar_ _, ar_ _, ar_ _, hb, ar_ _, trivial⟩
set_option maxHeartbeats 2000000 in
set_option maxRecDepth 20000 in
theorem zhe (st : Store) (R : AV → Store → Prop) (h : R (V.bool true) st) : ACalls Tryz.prog 19 [] st R := by
 refine ACalls.of_awp (c := cfg 50) zc Tryz.func19 (by rfl) (by rfl) (by rfl) (by rfl) ?_
 refine AWp.seq (AWp.of_vc zc ?_)
 refine AWp.seq (AWp.of_vc zc ?_)
 refine xq rfl (it := ti22) (ie := ti5) rfl rfl rfl rfl rfl (n := 2) (by decide) (by decide) (fun b hf => ?_)
 refine AWp.freezeBx (d := 1) (j := 5) (b := b) (n := 2) (cap := 2) (k := 1) (rows := rws u8C wkG.T) (pad := []) rfl rfl (zb _ _ _) hf.2 rfl (Nat.le_refl _) ?_ ?_ ?_
 ·intro row hr
  obtain ⟨x, _, rfl⟩ := List.mem_map.1 hr
  rfl
 ·intro row hr y hy
  obtain ⟨x, _, rfl⟩ := List.mem_map.1 hr
  simp [u8C, u8] at hy
  exact ⟨_, hy, rfl⟩
 rw [xj hf.1]
 refine AWp.of_vc zc ?_
 refine zba wkG ycc 0 (by decide) 0 rfl yhn _ _ ?_
 refine ⟨by decide, ?_⟩
 refine AWp.loop (σ := Nat × AV) ⟨fun x => [(1, .bx 1 0), (2, .av (int (x.1 : Nat)))], fun x => [(1, wldB (wkS x.1) x.2)],
  fun x st' => x.1 ≤ 5 ∧ st' = st ∧ AV.le x.2 (lst 6 bldC (wkS x.1).B), fun x => 5 - x.1⟩ zc ?_ ?_
 ·exact ⟨(0, nil), trivial, ⟨Nat.zero_le _, rfl, AV.le_nil 6⟩, ⟨lr_ _, lr_ _, trivial⟩, ⟨rfl, trivial⟩⟩
 rintro ⟨i, bv⟩ st' ⟨hi, rfl, hb⟩
 dsimp only at hi hb ⊢
 refine bcd (fun c1 => ?_) (fun c1 => ?_)
 ·have hi5 : i < 5 := by omega
  obtain ⟨u1, u2, u3, u4, u5⟩ := zb1 i (by omega)
  obtain ⟨v1, v2, v3, v4, v5⟩ := zb1 (i + 1) (by omega)
  refine ACalls.le (show leL [.agg (wldB (wkS i) bv), int 1] [.agg (wldC (wkS i)), int 1] from ⟨ycv hb, ar_ _, trivial⟩) (zff (wkS i) (mayF (zlk i (by omega))).fits (yhk (by omega)) (by rw [u4]; decide) (by rw [u5]; decide) (by rw [u1]; exact (by decide : 1 ≤ 1000000)) 1 _ _ (fun he => absurd (yho (by omega)) he) (fun _ => ?_))
  rw [yiu hi5]
  refine kc _ _ _ ?_
  refine bcne (fun c2 => absurd (show ((rws untC (wkS (i + 1)).U).length : Int) = 1 by rw [zi, v1]; rfl) c2) (fun c2 => ?_)
  refine in64 (by omega) ?_
  refine ⟨(i + 1, lst 6 bldC (wkS (i + 1)).B), ?_, ⟨by dsimp only; omega, rfl, ar_ _⟩, ⟨lr_ _, lr_ _, trivial⟩, ⟨rfl, trivial⟩⟩
  show 5 - (i + 1) < 5 - i
  omega
 have : i = 5 := by omega
 subst this
 obtain ⟨h0, e0⟩ := ycx (n := 5) (by decide)
 obtain ⟨e1, e2⟩ := yhm
 obtain ⟨u1, u2, u3, u4, u5⟩ := zb1 5 (by omega)
 refine ADraw.of_sched zc (by rfl) (by rfl) zz8 (by rfl) ?_
 refine ⟨0, rfl, za _ (zk h0) ?_⟩
 refine ⟨zba (wkS 5).G (u4 ▸ ycc) 1 (by rw [u4]; decide) 1 rfl rfl _ _ ⟨(by repeat (first | exact trivial | refine ⟨rfl, ?_⟩ | refine ⟨optR (optR (optR (za _ (zb _ _ _) rfl))), ?_⟩)), ?_⟩, trivial⟩
 have hp : (wkS 5).U[0].pos = cenV (wkS 5).G 1 := by rw [e0, u4]; exact e1
 have hs : (wkS 5).U[0].state = 2 := by rw [e0]; exact e2
 refine ⟨0, rfl, za _ (zk h0) ?_⟩
 exact ⟨⟨trivial, ret h⟩, trivial⟩
end Go.Proofs
namespace Go.Proofs
open Go Go.V
theorem zfs {n : Int} (h : (Lit.int .i64 n).wf = true) : yv n := by
 simp [Lit.wf, IntKind.min, IntKind.max, IntKind.signed, IntKind.bits] at h
 unfold yv
 omega
theorem zin : Codec Tryz.prog 2 Int intC yv := (Codec.int Tryz.underlying2).weaken fun _ h => zfs h
theorem z7 : Codec Tryz.prog 3 Int intC yv := (Codec.int Tryz.underlying3).weaken fun _ h => zfs h
theorem zle : Codec Tryz.prog 22 (List UInt8) (fun l => [byts l]) (fun l => l.length ≤ 140737488355328) :=
 (Codec.slice Tryz.underlying22 (k := 1) (by kernel_rfl) (by decide) (of_decide_eq_true (by kernel_rfl)) (Codec.byte Tryz.underlying5)).weaken fun _ h => h.2
theorem znm : Codec Tryz.prog 29 (List Int) (fun l => [ints l]) (fun l => l.length ≤ 140737488355328 ∧ ∀ n ∈ l, yv n) :=
 (Codec.slice Tryz.underlying29 (k := 1) (by kernel_rfl) (by decide) (of_decide_eq_true (by kernel_rfl)) z7).weaken fun _ h => ⟨h.2, h.1⟩
theorem zhg : Codec Tryz.prog 49 Vc vecC Vc.ok := by
 refine ⟨fun {H} enc w base held fuel cs x hx hw => ?_⟩
 have hu := Tryz.underlying49
 have hl : cs.length = 2 := (x6 hu hx).trans (by kernel_rfl)
 obtain ⟨a0, q0, h0⟩ := zh hu hx hw 0 0 1 rfl rfl (by kernel_rfl) zin
 obtain ⟨a1, q1, h1⟩ := zh hu hx hw 1 1 1 rfl rfl (by kernel_rfl) zin
 refine ⟨(a0, a1), ⟨q0, q1⟩, ?_⟩
 have := h0.cons rfl (h1.cons rfl (CellsOK.stop hl))
 rw [List.drop_zero] at this
 exact this
theorem zmr : Codec Tryz.prog 30 (List Vc) (fun l => [lst 2 vecC l]) (fun l => l.length ≤ 140737488355328 ∧ ∀ v ∈ l, v.ok) :=
 (Codec.slice Tryz.underlying30 (k := 2) (by kernel_rfl) (by decide) (of_decide_eq_true (by kernel_rfl)) zhg).weaken fun _ h => ⟨h.2, h.1⟩
theorem zrd : Codec Tryz.prog 24 Gnd gndC (fun g => g.T.length ≤ 140737488355328) := by
 refine ⟨fun {H} enc w base held fuel cs x hx hw => ?_⟩
 have hu := Tryz.underlying24
 have hl : cs.length = 3 := (x6 hu hx).trans (by kernel_rfl)
 obtain ⟨a0, q0, h0⟩ := zh hu hx hw 0 0 1 rfl rfl (by kernel_rfl) z7
 obtain ⟨a1, q1, h1⟩ := zh hu hx hw 1 1 1 rfl rfl (by kernel_rfl) z7
 obtain ⟨a2, q2, h2⟩ := zh hu hx hw 2 2 1 rfl rfl (by kernel_rfl) zle
 refine ⟨⟨a0, a1, a2⟩, q2, ?_⟩
 have := h0.cons rfl (h1.cons rfl (h2.cons rfl (CellsOK.stop hl)))
 rw [List.drop_zero] at this
 exact this
theorem zr2 : Codec Tryz.prog 145 Bld bldC (fun _ => True) := by
 refine ⟨fun {H} enc w base held fuel cs x hx hw => ?_⟩
 have hu := Tryz.underlying145
 have hl : cs.length = 6 := (x6 hu hx).trans (by kernel_rfl)
 obtain ⟨a0, q0, h0⟩ := zh hu hx hw 0 0 1 rfl rfl (by kernel_rfl) z7
 obtain ⟨a1, q1, h1⟩ := zh hu hx hw 1 1 1 rfl rfl (by kernel_rfl) z7
 obtain ⟨a2, q2, h2⟩ := zh hu hx hw 2 2 1 rfl rfl (by kernel_rfl) z7
 obtain ⟨a3, q3, h3⟩ := zh hu hx hw 3 3 1 rfl rfl (by kernel_rfl) z7
 obtain ⟨a4, q4, h4⟩ := zh hu hx hw 4 4 1 rfl rfl (by kernel_rfl) z7
 obtain ⟨a5, q5, h5⟩ := zh hu hx hw 5 5 1 rfl rfl (by kernel_rfl) z7
 refine ⟨⟨a0, a1, a2, a3, a4, a5⟩, trivial, ?_⟩
 have := h0.cons rfl (h1.cons rfl (h2.cons rfl (h3.cons rfl (h4.cons rfl (h5.cons rfl (CellsOK.stop hl))))))
 rw [List.drop_zero] at this
 exact this
theorem zoh : Codec Tryz.prog 25 (List Bld) (fun l => [lst 6 bldC l]) (fun l => l.length ≤ 140737488355328) :=
 (Codec.slice Tryz.underlying25 (k := 6) (by kernel_rfl) (by decide) (of_decide_eq_true (by kernel_rfl)) zr2).weaken fun _ h => h.2
theorem zo2 : Codec Tryz.prog 51 Unt untC (fun u => u.pos.ok) := by
 refine ⟨fun {H} enc w base held fuel cs x hx hw => ?_⟩
 have hu := Tryz.underlying51
 have hl : cs.length = 10 := (x6 hu hx).trans (by kernel_rfl)
 obtain ⟨a0, q0, h0⟩ := zh hu hx hw 0 0 1 rfl rfl (by kernel_rfl) z7
 obtain ⟨a1, q1, h1⟩ := zh hu hx hw 1 1 1 rfl rfl (by kernel_rfl) z7
 obtain ⟨a2, q2, h2⟩ := zh hu hx hw 2 2 1 rfl rfl (by kernel_rfl) z7
 obtain ⟨a3, q3, h3⟩ := zh hu hx hw 3 3 2 rfl rfl (by kernel_rfl) zhg
 obtain ⟨a4, q4, h4⟩ := zh hu hx hw 4 5 1 rfl rfl (by kernel_rfl) z7
 obtain ⟨a5, q5, h5⟩ := zh hu hx hw 5 6 1 rfl rfl (by kernel_rfl) z7
 obtain ⟨a6, q6, h6⟩ := zh hu hx hw 6 7 1 rfl rfl (by kernel_rfl) z7
 obtain ⟨a7, q7, h7⟩ := zh hu hx hw 7 8 1 rfl rfl (by kernel_rfl) z7
 obtain ⟨a8, q8, h8⟩ := zh hu hx hw 8 9 1 rfl rfl (by kernel_rfl) z7
 refine ⟨⟨a0, a1, a2, a3, a4, a5, a6, a7, a8⟩, q3, ?_⟩
 have := h0.cons rfl (h1.cons rfl (h2.cons rfl (h3.cons rfl (h4.cons rfl (h5.cons rfl (h6.cons rfl (h7.cons rfl (h8.cons rfl (CellsOK.stop hl)))))))))
 rw [List.drop_zero] at this
 exact this
theorem zmt : Codec Tryz.prog 26 (List Unt) (fun l => [lst 10 untC l]) (fun l => l.length ≤ 140737488355328 ∧ ∀ u ∈ l, u.pos.ok) :=
 (Codec.slice Tryz.underlying26 (k := 10) (by kernel_rfl) (by decide) (of_decide_eq_true (by kernel_rfl)) zo2).weaken fun _ h => ⟨h.2, h.1⟩
theorem zov : Codec Tryz.prog 28 Wld wldC (fun w => ∀ u ∈ w.U, u.pos.ok) := by
 refine ⟨fun {H} enc w base held fuel cs x hx hw => ?_⟩
 have hu := Tryz.underlying28
 have hl : cs.length = 8 := (x6 hu hx).trans (by kernel_rfl)
 obtain ⟨a0, q0, h0⟩ := zh hu hx hw 0 0 1 rfl rfl (by kernel_rfl) z7
 obtain ⟨a1, q1, h1⟩ := zh hu hx hw 1 1 1 rfl rfl (by kernel_rfl) z7
 obtain ⟨a2, q2, h2⟩ := zh hu hx hw 2 2 1 rfl rfl (by kernel_rfl) z7
 obtain ⟨a3, q3, h3⟩ := zh hu hx hw 3 3 3 rfl rfl (by kernel_rfl) zrd
 obtain ⟨a4, q4, h4⟩ := zh hu hx hw 4 6 1 rfl rfl (by kernel_rfl) zoh
 obtain ⟨a5, q5, h5⟩ := zh hu hx hw 5 7 1 rfl rfl (by kernel_rfl) zmt
 refine ⟨⟨a0, a1, a2, a3, a4, a5⟩, q5.2, ?_⟩
 have := h0.cons rfl (h1.cons rfl (h2.cons rfl (h3.cons rfl (h4.cons rfl (h5.cons rfl (CellsOK.stop hl))))))
 rw [List.drop_zero] at this
 exact this
theorem scr24_codec : Codec Tryz.prog 32 Scr24 zhy Scr24.good := by
 refine ⟨fun {H} enc w base held fuel cs x hx hw => ?_⟩
 have hu := Tryz.underlying32
 have hl : cs.length = 10 := (x6 hu hx).trans (by kernel_rfl)
 obtain ⟨a0, q0, h0⟩ := zh hu hx hw 0 0 8 rfl rfl (by kernel_rfl) zov
 obtain ⟨a1, q1, h1⟩ := zh hu hx hw 1 8 1 rfl rfl (by kernel_rfl) znm
 obtain ⟨a2, q2, h2⟩ := zh hu hx hw 2 9 1 rfl rfl (by kernel_rfl) zmr
 refine ⟨⟨a0, a1, a2⟩, ⟨q0, q1.2, q2.2⟩, ?_⟩
 have := h0.cons rfl (h1.cons rfl (h2.cons rfl (CellsOK.stop hl)))
 rw [List.drop_zero] at this
 exact this
end Go.Proofs
