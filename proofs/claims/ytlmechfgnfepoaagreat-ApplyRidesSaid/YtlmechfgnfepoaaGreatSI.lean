/- The ground on which laws of thronglaw23 are proved: contracts of functions and plain lemmas; no condition beyond the row's own. -/
import Derived.Test.YtlmechfgnfepoaaGreatVH
import Derived.Test.YtlmechfgnfepoaaGreatSH
import Derived.Test.YtlmechfgnfepoaaGreatSG
set_option linter.unusedSimpArgs false
set_option linter.unusedVariables false
namespace Go.Proofs
open Go Go.V
structure MayF (w : Wld) : Prop where
 hg : gndP w.G
 hB : w.B.length ≤ 256
 hU : w.U.length ≤ 4096
 hT : w.G.T.length ≤ 16384
 hb : ∀ b ∈ w.B, bldP b ∧ onP w.G b
 hk : ∀ u ∈ w.U, ko u.kind
 hr : z7 w.U
 hn1 : 1 ≤ w.next
 hn2 : w.next ≤ 1099511627776
theorem mayF {w : Wld} (h : mayP w) : MayF w := by
 obtain ⟨⟨hh, hok⟩, _⟩ := h
 have hbl := hh.2.1.2.1
 have ha := zq hh.2.1.1
 exact ⟨hh.2.1.1, hbl.1, hh.2.1.2.2, by omega, fun b hb => ⟨(hbl.2.2.1 b hb).1, (hbl.2.2.1 b hb).2.1⟩, fun u hu => (hok.2 u hu).1.1.2.2, hok.1, hh.1.2.2.1, hh.1.2.2.2⟩
theorem MayF.fits {w : Wld} (h : MayF w) : w.fits := ⟨by unfold Gnd.fits; have := h.hT; omega, by have := h.hB; omega, by have := h.hU; omega⟩
end Go.Proofs
namespace Go.Proofs
open Go Go.V
def wkC (s : Nat) (c : Cmd) (fv : AV) : List AV := ptr s :: (cmdC c ++ [fv])
/-- What a command leaves in its stand. -/
def Done (S : Store) (xw s : Nat) (c : Cmd) (fv : AV) (w : Wld) : Prop :=
 ∃ v o0 o1 o2 p, S.obj xw = some (.cells (wkC s c fv)) ∧ S.obj s = some (.cells (svC w v o0 o1 o2 p)) ∧ RowsQ 10 untC S v w.U
/-- A command's place of work, when it is begun. -/
structure Work (F G : Store) (xw s p : Nat) (w : Wld) (v : AV) (L : List Ent) (o0 o1 o2 : AV) (c : Cmd) (fv : AV) : Prop where
 S : StandR F G s p w v L o0 o1 o2
 hx : G.obj xw = some (.cells (wkC s c fv))
 ox : offB v xw
 os : offB v s
 hL : L.length ≤ w.U.length
 hF : j3 w L
theorem Work.ne {F G : Store} {xw s p : Nat} {w : Wld} {v : AV} {L : List Ent} {o0 o1 o2 : AV} {c : Cmd} {fv : AV} (h : Work F G xw s p w v L o0 o1 o2 c fv) : xw ≠ s := fun e => by
 have h1 := h.hx
 rw [e, h.S.hs] at h1
 cases h1
theorem Work.x {F F' G : Store} {xw s p : Nat} {w : Wld} {v : AV} {L : List Ent} {o0 o1 o2 q0 q1 q2 : AV} {c : Cmd} {fv : AV} (h : Work F G xw s p w v L o0 o1 o2 c fv) : (F'.un (svS G s w v q0 q1 q2 p)).obj xw = some (.cells (wkC s c fv)) := un_r (by
 show (G.setObj s _).obj xw = _
 rw [zg h.ne]
 exact h.hx)
theorem Work.s {F F' G : Store} {xw s p : Nat} {w : Wld} {v : AV} {L : List Ent} {o0 o1 o2 q0 q1 q2 : AV} {c : Cmd} {fv : AV} (h : Work F G xw s p w v L o0 o1 o2 c fv) : (F'.un (svS G s w v q0 q1 q2 p)).obj s = some (.cells (svC w v q0 q1 q2 p)) := un_r (qn _ _ _ _ _ _ _ _)
theorem Work.r {F F' G : Store} {xw s p : Nat} {w : Wld} {v : AV} {L : List Ent} {o0 o1 o2 q0 q1 q2 : AV} {c : Cmd} {fv : AV} (h : Work F G xw s p w v L o0 o1 o2 c fv) : RowsQ 10 untC (F'.un (svS G s w v q0 q1 q2 p)) v w.U := (kj h.S.hs h.S.hu).un
theorem zdl (u : Unt) (st : Store) (R : AV → Store → Prop) (h : R (.agg (untC { u with goal := -1, next := -1, stuck := 0, state := 0 })) st) : ACalls Tryz.prog 162 [.agg (untC u)] st R := by
 refine ACalls.of_body (c := cfg 8) zd Tryz.func162 (by rfl) (by rfl) (by rfl) (by rfl) ?_
 exact ret h
set_option maxHeartbeats 1000000 in
set_option maxRecDepth 20000 in
theorem zi9 {F G : Store} {xw s p : Nat} {w : Wld} {v : AV} {L : List Ent} {o0 o1 o2 : AV} {c : Cmd} {fv : AV} (hW : Work F G xw s p w v L o0 o1 o2 c fv) (hm : MayF w) (hn : ∀ u ∈ w.U, u.pos.ok) (hq : Vc.ok (c.X, c.Y)) (R : AV → Store → Prop)
  (h : ∀ S', spE w c ≠ 0 → R (int (spE w c)) S') (h0 : spE w c = 0 → ∀ S', Done S' xw s c fv (spW w c) → R (int 0) S') : ACalls Tryz.prog 118 [ptr xw] (F.un (svS G s w v o0 o1 o2 p)) R := by
 obtain ⟨oa, cap, e, hget⟩ := hW.S.hu.form
 subst e
 have hU := hm.hU
 have hn2 := hm.hn2
 have hn1 := hm.hn1
 have hx := hW.x (F' := F) (q0 := o0) (q1 := o1) (q2 := o2)
 have hs := hW.s (F' := F) (q0 := o0) (q1 := o1) (q2 := o2)
 refine ACalls.of_body (c := cfg 96) zd Tryz.func118 (by rfl) (by rfl) (by rfl) (by rfl) ?_
 refine za (o := (F.un (svS G s w _ _ _ _ p)).obj xw) _ hx ?_
 refine za (o := (F.un (svS G s w _ _ _ _ p)).obj s) _ hs ?_
 refine bceq (fun c1 => ?_) (fun c1 => ?_)
 ·have hf : zcs w := .inl (by omega)
  have he : spE w c = 4 := by unfold spE; rw [if_pos hf]
  have := h Store.empty (by rw [he]; decide)
  rw [he] at this
  exact k8 (ar_ _) (hasE _) this
 refine za (o := (F.un (svS G s w _ _ _ _ p)).obj xw) _ hx ?_
 refine za (o := (F.un (svS G s w _ _ _ _ p)).obj s) _ hs ?_
 refine bceq (fun c2 => ?_) (fun c2 => ?_)
 ·have hf : zcs w := .inr (by omega)
  have he : spE w c = 4 := by unfold spE; rw [if_pos hf]
  have := h Store.empty (by rw [he]; decide)
  rw [he] at this
  exact k8 (ar_ _) (hasE _) this
 have hf : ¬ zcs w := fun hh => by rcases hh with hh | hh <;> omega
 refine ADraw.of_sched zd (by rfl) (by rfl) zxe (by rfl) ?_
 refine za (o := (F.un (svS G s w _ _ _ _ p)).obj xw) _ hx ?_
 refine za (o := (F.un (svS G s w _ _ _ _ p)).obj xw) _ hx ?_
 refine za (o := (F.un (svS G s w _ _ _ _ p)).obj xw) _ hx ?_
 refine ⟨zb5 hW.S hm.hg (by have := hm.hB; omega) hm.hb hm.hr (by omega) hn hW.hL hW.hF 0 c.N (c.X, c.Y) hq _ (fun z F2 q0 q1_ q2_ hz hS2 => ⟨?_, ?_⟩), trivial⟩
 ·have hx2 := hW.x (F' := F2) (q0 := q0) (q1 := q1_) (q2 := q2_)
  repeat (first | exact trivial | refine ⟨rfl, ?_⟩ | refine ⟨za (o := (F2.un (svS G s w _ q0 q1_ q2_ p)).obj xw) _ hx2 rfl, ?_⟩)
 have hx2 := hW.x (F' := F2) (q0 := q0) (q1 := q1_) (q2 := q2_)
 have hs2 := hW.s (F' := F2) (q0 := q0) (q1 := q1_) (q2 := q2_)
 have hr2 := hW.r (F' := F2) (q0 := q0) (q1 := q1_) (q2 := q2_)
 generalize F2.un (svS G s w _ q0 q1_ q2_ p) = S at hx2 hs2 hr2 ⊢
 refine ⟨⟨(by repeat (first | exact trivial | refine ⟨rfl, ?_⟩ | refine ⟨optR (optR (optR (za _ (zb _ _ _) rfl))), ?_⟩)), ?_⟩, trivial⟩
 refine yv ?_
 refine ze (fun c3 => ?_) (fun c3 => ?_)
 rotate_left
 ·have hncl : ¬ yk w 0 c.N (c.X, c.Y) := fun hh => by have := hz.2 hh; rw [this] at c3; cases c3
  have he : spE w c = 5 := by unfold spE; rw [if_neg hf, if_neg hncl]
  have := h S (by rw [he]; decide)
  rw [he] at this
  exact ret this
 have he : spE w c = 0 := by unfold spE; rw [if_neg hf, if_pos (hz.1 c3)]
 have hxs := hW.ne
 refine ADraw.of_sched zd (by rfl) (by rfl) zxd (by rfl) ?_
 refine za (o := S.obj xw) _ hx2 ?_
 refine za (o := S.obj xw) _ hx2 ?_
 refine za (o := S.obj s) _ hs2 ?_
 refine za (o := S.obj xw) _ hx2 ?_
 refine za (o := S.obj s) _ hs2 ?_
 refine za (o := S.obj xw) _ hx2 ?_
 refine za (o := S.obj xw) _ hx2 ?_
 refine za (o := S.obj xw) _ hx2 ?_
 refine ⟨zdl ⟨w.next, c.P, c.N, (c.X, c.Y), 0, 0, 0, 0, 0⟩ _ _ ⟨?_, ?_⟩, trivial⟩
 ·repeat (first | exact trivial | refine ⟨rfl, ?_⟩ | refine ⟨za (o := S.obj xw) _ hx2 rfl, ?_⟩ | refine ⟨za (o := S.obj s) _ hs2 rfl, ?_⟩)
 refine ⟨by decide, ?_⟩
 refine ⟨kx (ie := ti50) rfl qb (by decide) hr2 (spU w c) rfl (by omega) (fun b cap2 L2 q1 q2 q3 q4 => ?_), trivial⟩
 have hbs : b ≠ s := by
  rcases q1 with q1 | ⟨c0, q00, q1⟩
  ·exact q1.ne_obj hs2
  ·exact hW.os b _ _ q1 q00
 have hbx : b ≠ xw := by
  rcases q1 with q1 | ⟨c0, q00, q1⟩
  ·exact q1.ne_obj hx2
  ·exact hW.ox b _ _ q1 q00
 have hx3 : (S.setObj b (.cells ((rws untC (w.U ++ [spU w c])).flatten ++ L2))).obj xw = some (.cells (wkC s c fv)) := by rw [zg (Ne.symm hbx)]; exact hx2
 have hs3 : (S.setObj b (.cells ((rws untC (w.U ++ [spU w c])).flatten ++ L2))).obj s = some (.cells (svC w (.s (.slice oa w.U.length cap)) q0 q1_ q2_ p)) := by rw [zg (Ne.symm hbs)]; exact hs2
 have hr3 : RowsQ 10 untC (S.setObj b (.cells ((rws untC (w.U ++ [spU w c])).flatten ++ L2))) (.s (.slice (some ⟨b, 0, none⟩) (w.U ++ [spU w c]).length cap2)) (w.U ++ [spU w c]) := .inl (.inr ⟨b, cap2, L2, rfl, zb _ _ _, q2, q3, q4⟩)
 generalize S.setObj b _ = S3 at hx3 hs3 hr3 ⊢
 have hoff : ∀ {q}, b ≠ q → offB (.s (.slice (some ⟨b, 0, none⟩) (w.U ++ [spU w c]).length cap2)) q := fun hne b' n' c' e _ => by
  simp only [AV.s.injEq, Value.slice.injEq, Option.some.injEq, Addr.mk.injEq] at e
  exact e.1.1 ▸ hne
 refine ⟨?_, ?_⟩
 ·repeat (first | exact trivial | refine ⟨rfl, ?_⟩ | refine ⟨za (o := S3.obj xw) _ hx3 rfl, ?_⟩ | refine ⟨za (o := S3.obj s) _ hs3 rfl, ?_⟩)
 refine ⟨?_, trivial⟩
 refine za _ rfl (y3 rfl (qj (v := .s (.slice (some ⟨b, 0, none⟩) (w.U ++ [spU w c]).length cap2)) rfl rfl rfl rfl ?_))
 refine qk (i := ti26) (v := .s (.slice (some ⟨b, 0, none⟩) (w.U ++ [spU w c]).length cap2)) (b := s) (o := 7) (l := svC w (.s (.slice oa w.U.length cap)) q0 q1_ q2_ p) rfl rfl rfl hs3 (show 7 + 1 ≤ 12 by decide) ?_
 have e3 : zn (svC w (.s (.slice oa w.U.length cap)) q0 q1_ q2_ p) 7 [.s (.slice (some ⟨b, 0, none⟩) (w.U ++ [spU w c]).length cap2)] = svC w (.s (.slice (some ⟨b, 0, none⟩) (w.U ++ [spU w c]).length cap2)) q0 q1_ q2_ p := rfl
 rw [e3]
 have hr4 := hr3.set (hoff hbs) (.cells (svC w (.s (.slice (some ⟨b, 0, none⟩) (w.U ++ [spU w c]).length cap2)) q0 q1_ q2_ p))
 have hs4 : (S3.setObj s (.cells (svC w (.s (.slice (some ⟨b, 0, none⟩) (w.U ++ [spU w c]).length cap2)) q0 q1_ q2_ p))).obj s = _ := zb _ _ _
 have hx4 : (S3.setObj s (.cells (svC w (.s (.slice (some ⟨b, 0, none⟩) (w.U ++ [spU w c]).length cap2)) q0 q1_ q2_ p))).obj xw = _ := (zg hxs).trans hx3
 generalize S3.setObj s _ = S4 at hr4 hs4 hx4 ⊢
 refine ⟨trivial, ?_⟩
 refine za (o := S4.obj xw) _ hx4 ?_
 refine za (o := S4.obj s) _ hs4 ?_
 refine in64 (by omega) ?_
 refine qk (i := ti3) (v := int (w.next + 1)) (b := s) (o := 2) (l := svC w (.s (.slice (some ⟨b, 0, none⟩) (w.U ++ [spU w c]).length cap2)) q0 q1_ q2_ p) rfl rfl rfl hs4 (show 2 + 1 ≤ 12 by decide) ?_
 exact ret (h0 he _ ⟨_, q0, q1_, q2_, p, (zg hxs).trans hx4, zb _ _ _, hr4.set (hoff hbs) _⟩)
end Go.Proofs
namespace Go.Proofs
open Go Go.V
def nF : AV := .clos 45 []
/-- One kind of command, done in its place of work. -/
def vg (k : Int) (E : Wld → Cmd → Int) (W : Wld → Cmd → Wld) : Prop :=
 ∀ (F G : Store) (xw s p : Nat) (w : Wld) (v : AV) (L : List Ent) (o0 o1 o2 : AV) (c : Cmd), Work F G xw s p w v L o0 o1 o2 c nF → mayP w → (∀ u ∈ w.U, u.pos.ok) → cmdP c → c.P ≤ w.players → c.K = k → ∀ R : AV → Store → Prop,
  (∀ S', E w c ≠ 0 → R (int (E w c)) S') → (E w c = 0 → ∀ S', Done S' xw s c nF (W w c) → R (int 0) S') → ACalls Tryz.prog 79 [ptr xw] (F.un (svS G s w v o0 o1 o2 p)) R
theorem ydz {c : Cmd} (h : yg c.X c.Y) : Vc.ok (c.X, c.Y) := by
 unfold yg at h
 unfold Vc.ok yd
 dsimp only
 omega
theorem ycr : vg 1 spE spW := by
 intro F G xw s p w v L o0 o1 o2 c hW hm hn hc hp hk R h h0
 have hx := hW.x (F' := F) (q0 := o0) (q1 := o1) (q2 := o2)
 have hok := (Cmd.ok1 hk).1 hc.1
 refine ACalls.of_body (c := cfg 34) zd Tryz.func79 (by rfl) (by rfl) (by rfl) (by rfl) ?_
 refine za (o := (F.un (svS G s w v o0 o1 o2 p)).obj xw) _ hx ?_
 refine bceq (fun c1 => ?_) (fun c1 => absurd hk c1)
 refine zi9 hW (mayF hm) hn (ydz hok.2) _ (fun S' he => ret (h S' he)) (fun he S' hd => ret (h0 he S' hd))
def DoQ (E : Wld → Cmd → Int) (W : Wld → Cmd → Wld) (w : Wld) (c : Cmd) (r : AV) (S : Store) : Prop :=
 (doE E w c ≠ 0 ∧ r = .tup [.agg (wldC w), int (doE E w c)]) ∨ (doE E w c = 0 ∧ ∃ v, RowsQ 10 untC S v (W w c).U ∧ r = .tup [.agg (wldV (W w c) v), int 0])
theorem ydv {k : Int} {E : Wld → Cmd → Int} {W : Wld → Cmd → Wld} (hD : vg k E W) (w : Wld) (hm : mayP w) (hn : ∀ u ∈ w.U, u.pos.ok) (c : Cmd) (hc : c.fits) (hK : c.K = k) : ACalls Tryz.prog 44 [.agg (wldC w), .agg (cmdC c), nF] Store.empty (DoQ E W w c) := by
 have mf := mayF hm
 have hU := mf.hU
 have hB := mf.hB
 have hT := mf.hT
 refine ACalls.of_body (c := cfg 41 [27] []) zd Tryz.func44 (by rfl) (by rfl) (by rfl) (by rfl) ?_
 refine zir c hc _ _ (fun zc hzc => ?_)
 have bad : (¬ cmdP c ∨ w.players < c.P) → DoQ E W w c (.tup [.agg (wldC w), int 1]) Store.empty := fun hb => by
  have he := zke (E := E) (w := w) (c := c) (.inr hb)
  exact .inl ⟨by rw [he]; decide, by rw [he]⟩
 refine yv ?_
 refine ze (fun c1 => ?_) (fun c1 => ?_)
 rotate_left
 ·exact ret (bad (.inl fun hh => by have := hzc.2 hh; rw [this] at c1; cases c1))
 refine bcd (fun c2 => ?_) (fun c2 => ?_)
 ·exact ret (bad (.inr (by omega)))
 have hcp := hzc.1 c1
 have he := zlo (E := E) hm hcp (show c.P ≤ w.players by omega)
 refine ADraw.of_sched zd (by rfl) (by rfl) yb4 (by rfl) ?_
 refine ⟨zo8 w (by omega) (by omega) (by omega) _ (fun v N hv => ⟨(by repeat (first | exact trivial | refine ⟨rfl, ?_⟩ | refine ⟨optR (optR (optR (za _ (zb _ _ _) rfl))), ?_⟩)), ?_⟩), trivial⟩
 refine ⟨zmw w v N hv (by omega) hn _ (fun F s p L o0 o1 o2 hsf hS hLl hL => ⟨(by repeat (first | exact trivial | refine ⟨rfl, ?_⟩ | refine ⟨optR (optR (optR (za _ (zb _ _ _) rfl))), ?_⟩)), ?_⟩), trivial⟩
 refine ⟨fun xw hxw => ⟨(by repeat (first | exact trivial | refine ⟨rfl, ?_⟩ | refine ⟨optR (optR (optR (za _ (zb _ _ _) rfl))), ?_⟩)), ?_⟩, trivial⟩
 refine ⟨⟨trivial, ?_⟩, trivial⟩
 have hx1 : ¬ F.has xw ∧ ¬ (svS N s w v o0 o1 o2 p).has xw := by
  have := fresh_iff.1 hxw
  exact ⟨fun h => this (un_has.2 (.inl h)), fun h => this (un_has.2 (.inr h))⟩
 have hne : xw ≠ s := fun e => hx1.2 (svS_has.2 (.inl e))
 have hxN : ¬ N.has xw := fun h => hx1.2 (svS_has.2 (.inr h))
 have e0 : (F.un (svS N s w v o0 o1 o2 p)).setObj xw (.cells (wkC s c nF)) = F.un (svS (N.setObj xw (.cells (wkC s c nF))) s w v o0 o1 o2 p) := by
  rw [zo]
  unfold svS
  rw [km hne]
 have offx := wq hv (vx hxN).1
 have offs := wq hv hS.hs
 have hW : Work F (N.setObj xw (.cells (wkC s c nF))) xw s p w v L o0 o1 o2 c nF := by
  refine ⟨⟨hS.hc, fun i h1 h2 => ?_, ?_, hv.set offx _, hS.h0, hS.h1, hS.h2⟩, zb _ _ _, offx, offs, hLl, hL mf.hr⟩
  ·rcases svS_has.1 h2 with rfl | h2
   ·exact hS.hd _ h1 (svS_has.2 (.inl rfl))
   ·by_cases hi : i = xw
    ·subst hi; exact hx1.1 h1
    ·refine hS.hd _ h1 (svS_has.2 (.inr ?_))
     rcases h2 with h2 | h2
     ·rw [zg hi] at h2; exact .inl h2
     ·exact .inr h2
  ·rw [zg (Ne.symm hne)]; exact hS.hs
 refine cast (congrArg (fun st => ACalls Tryz.prog 79 [ptr xw] st _) e0.symm) ?_
 refine hD F _ xw s p w v L o0 o1 o2 c hW hm hn hcp (by omega) hK _ (fun S' hE => ?_) (fun hE S' hdn => ?_)
 ·refine bcne (fun _ => ?_) (fun h => absurd h hE)
  exact ret (.inl ⟨by rw [he]; exact hE, by rw [he]; rfl⟩)
 ·obtain ⟨v2, q0, q1, q2, p2, g1, g2, g3⟩ := hdn
  obtain ⟨oa, cap, e2, _⟩ := g3.form
  subst e2
  refine za (o := S'.obj xw) _ g1 ?_
  refine za (o := S'.obj s) _ g2 ?_
  exact ret (.inr ⟨he.trans hE, _, g3, rfl⟩)
theorem ycs {k : Int} {E : Wld → Cmd → Int} {W : Wld → Cmd → Wld} (hD : vg k E W) (w : Wld) (hm : mayP w) (hn : ∀ u ∈ w.U, u.pos.ok) (c : Cmd) (hc : c.fits) (hK : c.K = k) (R : AV → Store → Prop) (h : R (.tup [.agg (wldC (doW E W w c)), int (doE E w c)]) Store.empty) : ACalls Tryz.prog 44 [.agg (wldC w), .agg (cmdC c), nF] Store.empty R := by
 have h1 := (ydv hD w hm hn c hc hK).frozen (R := fun r => r = .tup [.agg (wldC (doW E W w c)), int (doE E w c)]) (by
  rintro r S (⟨h1, rfl⟩ | ⟨h1, v, hv, rfl⟩)
  ·rw [zgl h1]
   exact ⟨_, rfl, fun Oth M w' v' sto hx => zw hx⟩
  ·rw [zlm h1, h1]
   refine ⟨_, rfl, fun Oth M w' v' sto hx => ?_⟩
   cases hx with
   | tup _ c2 hl hc2 =>
    refine .tup _ c2 hl fun i x y hx hy => ?_
    match i with
    | 0 => simp only [List.getElem?_cons_zero, Option.some.injEq] at hx; subst hx; exact zjb hv sto (hc2 0 _ y rfl hy)
    | 1 => simp only [List.getElem?_cons_succ, List.getElem?_cons_zero, Option.some.injEq] at hx; subst hx; exact zw (hc2 1 _ y rfl hy)
    | i + 2 => simp at hx)
 exact h1.post (Store.Le.refl _) fun r st' hr => ⟨r, Store.empty, AV.le_refl r, (hasE st').toLe, by subst hr; exact h⟩
end Go.Proofs
namespace Go.Proofs
open Go Go.V
/-- Apply: its answer is a world in memory of its own. -/
theorem znr {k : Int} {E : Wld → Cmd → Int} {W : Wld → Cmd → Wld} (hD : vg k E W) (w : Wld) (hw : w.fits) (hn : ∀ u ∈ w.U, u.pos.ok) (hT : w.G.T.length ≤ 1000000) (hB : w.B.length ≤ 1000000) (hU : w.U.length ≤ 1000000)
  (c : Cmd) (hW : mayP w → (W w c).G.T.length ≤ 1000000 ∧ (W w c).B.length ≤ 1000000 ∧ (W w c).U.length ≤ 1000000) (hc : c.fits) (hK : c.K = k) (R : AV → Store → Prop)
  (h : ∀ S vT vB vU NT NB NU, OwnQ S (doW E W w c) vT vB vU NT NB NU → R (.tup [.agg (wld3 (doW E W w c) vT vB vU), int (doE E w c)]) S) : ACalls Tryz.prog 21 [.agg (wldC w), .agg (cmdC c)] Store.empty R := by
 refine ACalls.of_body (c := cfg 22) zd Tryz.func21 (by rfl) (by rfl) (by rfl) (by rfl) ?_
 refine zx0 w hw hn _ _ (fun z hz => ?_)
 refine yv ?_
 refine ze (fun c1 => ?_) (fun c1 => ?_)
 rotate_left
 ·have hnm : ¬ mayP w := fun hh => by have := hz.2 hh; rw [this] at c1; cases c1
  have he := zke (E := E) (w := w) (c := c) (.inl hnm)
  have hw2 : doW E W w c = w := zgl (by rw [he]; decide)
  refine zdn w (by omega) (by omega) (by omega) _ (fun S vT vB vU NT NB NU ho => ?_)
  obtain ⟨rT, rB, rU⟩ := zcw ho
  obtain ⟨_, _, e1, _⟩ := rT.form
  obtain ⟨_, _, e2, _⟩ := rB.form
  obtain ⟨_, _, e3, _⟩ := rU.form
  have h9 := h S vT vB vU NT NB NU (by rw [hw2]; exact ho)
  rw [hw2, he] at h9
  subst e1 e2 e3
  exact ret h9
 have hm := hz.1 c1
 have hl := hW hm
 refine ycs hD w hm hn c hc hK _ ?_
 have hl2 : (doW E W w c).G.T.length ≤ 1000000 ∧ (doW E W w c).B.length ≤ 1000000 ∧ (doW E W w c).U.length ≤ 1000000 := by
  by_cases he : doE E w c = 0
  ·rw [zlm he]; exact hl
  ·rw [zgl he]; exact ⟨hT, hB, hU⟩
 generalize doW E W w c = w2 at *
 generalize doE E w c = e2 at *
 refine zdn w2 (by omega) (by omega) (by omega) _ (fun S vT vB vU NT NB NU ho => ?_)
 obtain ⟨rT, rB, rU⟩ := zcw ho
 obtain ⟨_, _, e1, _⟩ := rT.form
 obtain ⟨_, _, e2, _⟩ := rB.form
 obtain ⟨_, _, e3, _⟩ := rU.form
 have h9 := h S vT vB vU NT NB NU ho
 subst e1 e2 e3
 exact ret h9
end Go.Proofs
namespace Go.Proofs
open Go Go.V
end Go.Proofs
