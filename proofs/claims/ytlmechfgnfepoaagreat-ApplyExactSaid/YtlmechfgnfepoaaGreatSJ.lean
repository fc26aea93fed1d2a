/- The ground on which laws of thronglaw23 are proved: contracts of functions and plain lemmas; no condition beyond the row's own. -/
import Derived.Test.YtlmechfgnfepoaaGreatVH
import Derived.Test.YtlmechfgnfepoaaGreatSI
import Derived.Test.YtlmechfgnfepoaaGreatVC
set_option linter.unusedSimpArgs false
set_option linter.unusedVariables false
namespace Go.Proofs
open Go Go.V
theorem zc0 (n : Int) (st : Store) (R : AV → Store → Prop) (h : R (int n) st) : ACalls Tryz.prog 22 [int n] st R := by
 refine ACalls.of_body (c := cfg 4) ze Tryz.func22 (by rfl) (by rfl) (by rfl) (by rfl) ?_
 exact ret h
theorem yiv {k : Int} {E : Wld → Cmd → Int} {W : Wld → Cmd → Wld} (hD : vk k E W) (w : Wld) (hw : w.fits) (hn : ∀ u ∈ w.U, u.pos.ok) (hT : w.G.T.length ≤ 1000000) (hB : w.B.length ≤ 1000000) (hU : w.U.length ≤ 1000000)
  (c : Cmd) (hW : mayP w → (W w c).G.T.length ≤ 1000000 ∧ (W w c).B.length ≤ 1000000 ∧ (W w c).U.length ≤ 1000000) (hc : c.fits) (hK : c.K = k) (st : Store) (R : AV → Store → Prop)
  (h : ∀ N vT vB vU NT NB NU, OwnQ N (doW E W w c) vT vB vU NT NB NU → Disj N st → R (.tup [.agg (wld3 (doW E W w c) vT vB vU), int (doE E w c)]) (N.un st)) : ACalls Tryz.prog 21 [.agg (wldC w), .agg (cmdC c)] st R := by
 rw [← ym st]
 exact ACalls.frame (xd st) (zht hD w hw hn hT hB hU c hW hc hK (fun r S => ∃ vT vB vU NT NB NU, OwnQ S (doW E W w c) vT vB vU NT NB NU ∧ r = .tup [.agg (wld3 (doW E W w c) vT vB vU), int (doE E w c)]) fun S vT vB vU NT NB NU ho => ⟨vT, vB, vU, NT, NB, NU, ho, rfl⟩) fun r S ⟨vT, vB, vU, NT, NB, NU, ho, e⟩ hd => e ▸ h S vT vB vU NT NB NU ho hd
theorem refF {k : Int} {E : Wld → Cmd → Int} {W : Wld → Cmd → Wld} (hR : zgn k E W) (w : Wld) (hw : w.fits) (hn : ∀ u ∈ w.U, u.pos.ok) (hU : w.U.length ≤ 1000000) (c : Cmd) (hc : c.fits) (hK : c.K = k) (st : Store) (R : AV → Store → Prop) (h : R (.tup [.agg (wldC (doW E W w c)), int (doE E w c)]) st) :
  ACalls Tryz.prog 34 [.agg (wldC w), .agg (cmdC c)] st R := by
 rw [← ym st]
 exact ACalls.frame (xd st) (hR w hw hn hU c hc hK (fun r S => S = Store.empty ∧ r = .tup [.agg (wldC (doW E W w c)), int (doE E w c)]) ⟨rfl, rfl⟩) fun r S ⟨e, e2⟩ hd => by subst e e2; rw [ym]; exact h
theorem we {N NT NB NU st : Store} {w : Wld} {vT vB vU : AV} (ho : OwnQ N w vT vB vU NT NB NU) (hd : Disj N st) (hw : w.fits) (R : AV → Store → Prop) (h : R (V.bool true) (N.un st)) : ACalls Tryz.prog 35 [.agg (wld3 w vT vB vU), .agg (wldC w)] (N.un st) R :=
 ACalls.frame hd (ACalls.read (R := fun r S => r = V.bool true ∧ S = N) (ys := [.agg (wldC w), .agg (wldC w)]) (Q := fun r => r = V.bool true) (fun Oth M W vs sto hr => by
  obtain ⟨x, y, rfl, h1, h2⟩ := zca hr
  exact Reads.cons (zff ho sto h1) (Reads.cons (zo h2) Reads.nil)) (zaj w hw _ _ rfl) (fun r hr => by subst hr; exact zhh _) (fun r hr => ⟨hr, rfl⟩)) fun r S ⟨e, e2⟩ _ => by subst e e2; exact h
theorem zrn {N NT NB NU st : Store} {w : Wld} {vT vB vU : AV} (ho : OwnQ N w vT vB vU NT NB NU) (hd : Disj N st) (hT : w.G.T.length ≤ 1000000) (hB : w.B.length ≤ 1000000) (hU : w.U.length ≤ 1000000) (R : AV → Store → Prop) (h : R (.tup []) st) : ACalls Tryz.prog 37 [.agg (wld3 w vT vB vU)] (N.un st) R :=
 ACalls.frame hd (zjo ho hT hB hU (fun r S => r = .tup [] ∧ S = Store.empty) ⟨rfl, rfl⟩) fun r S ⟨e, e2⟩ _ => by subst e e2; rw [ym]; exact h
def w00q : Wld := ⟨0, 0, 0, ⟨0, 0, []⟩, [], []⟩
def zerW : List AV := [int 0, int 0, int 0, int 0, int 0, .s (.slice none 0 0), .s (.slice none 0 0), .s (.slice none 0 0)]
set_option maxHeartbeats 2000000 in
set_option maxRecDepth 20000 in
theorem ybr {k : Int} {E : Wld → Cmd → Int} {W : Wld → Cmd → Wld} (hD : vk k E W) (hR : zgn k E W) (w : Wld) (hw : w.fits) (hn : ∀ u ∈ w.U, u.pos.ok) (hT : w.G.T.length ≤ 1000000) (hB : w.B.length ≤ 1000000) (hU : w.U.length ≤ 1000000)
  (c : Cmd) (hW : mayP w → (W w c).G.T.length ≤ 1000000 ∧ (W w c).B.length ≤ 1000000 ∧ (W w c).U.length ≤ 1000000) (hc : c.fits) (hK : c.K = k) (st : Store) (R : AV → Store → Prop)
  (h : ∀ z : Wld, (z = doW E W w c ∨ z = w00q) → R (.tup [.agg (wldC z), V.bool true]) st) : ACalls Tryz.prog 17 [.agg (wldC w), .agg (cmdC c)] st R := by
 have hl2 : (doW E W w c).G.T.length ≤ 1000000 ∧ (doW E W w c).B.length ≤ 1000000 ∧ (doW E W w c).U.length ≤ 1000000 := by
  by_cases he : doE E w c = 0
  ·rw [zhk he]
   refine hW (Classical.byContradiction fun hm => ?_)
   rw [j5 (.inl hm)] at he
   cases he
  ·rw [zal he]; exact ⟨hT, hB, hU⟩
 have hf2 : (doW E W w c).fits := ⟨by unfold Gnd.fits; omega, by omega, by omega⟩
 have hbw : doE E w c ≠ 0 → doW E W w c = w := zal
 refine ACalls.of_awp (c := cfg 84) ze Tryz.func17 (by rfl) (by rfl) (by rfl) (by rfl) ?_
 refine AWp.seq (AWp.of_vc ze ?_)
 refine AWp.seq (AWp.of_vc ze ?_)
 refine xq w hw _ _ ?_
 refine AWp.seq (AWp.of_vc ze ?_)
 refine zdb c hc _ _ ?_
 refine AWp.seq (AWp.of_vc ze ?_)
 refine refF hR w hw hn hU c hc hK _ _ ?_
 have hap := fun st2 R2 => yiv hD w hw hn hT hB hU c hW hc hK st2 R2
 generalize doW E W w c = w2 at *
 generalize doE E w c = e at *
 refine AWp.meetA (σ := List AV) ⟨fun zc => [(2, .bx 2 0), (3, .bx 3 0), (4, .bx 4 0), (6, .bx 6 0), (7, .bx 7 0), (8, .bx 8 0), (9, .av (int e))], fun zc => [(2, wldC w), (3, cmdC c), (4, zerW), (6, wldC w), (7, cmdC c), (8, zc)],
  fun zc s => s = st ∧ (e = 0 → zc = wldC w2) ∧ (zc = wldC w2 ∨ zc = zerW)⟩ ?_ ?_
 ·refine AWp.of_vc ze ?_
  refine bceq (fun e1 => ?_) (fun e1 => ?_)
  ·refine qz w hw hn _ _ (fun z hz => ?_)
   refine yc ?_
   refine zd (fun c1 => ?_) (fun c1 => ?_)
   ·exact ⟨wldC w2, ⟨rfl, fun _ => rfl, .inl rfl⟩, ⟨lr_ _, lr_ _, lr_ _, lr_ _, lr_ _, lr_ _, lr_ _, trivial⟩, ⟨rfl, rfl, rfl, rfl, rfl, rfl, trivial⟩⟩
   ·exact ⟨zerW, ⟨rfl, fun h0 => absurd (e1.symm.trans h0) (by decide), .inr rfl⟩, ⟨lr_ _, lr_ _, lr_ _, lr_ _, lr_ _, lr_ _, lr_ _, trivial⟩, ⟨rfl, rfl, rfl, rfl, rfl, rfl, trivial⟩⟩
  ·exact ⟨wldC w2, ⟨rfl, fun _ => rfl, .inl rfl⟩, ⟨lr_ _, lr_ _, lr_ _, lr_ _, lr_ _, lr_ _, lr_ _, trivial⟩, ⟨rfl, rfl, rfl, rfl, rfl, rfl, trivial⟩⟩
 rintro zc _ ⟨rfl, hz0, hz1⟩
 refine AWp.of_vc ze ?_
 refine hap _ _ (fun N vT vB vU NT NB NU ho hd => ?_)
 obtain ⟨rT, rB, rU⟩ := zcb ho
 obtain ⟨_, _, e1, _⟩ := rT.form
 obtain ⟨_, _, e2, _⟩ := rB.form
 obtain ⟨_, _, e3, _⟩ := rU.form
 subst e1 e2 e3
 refine zc0 e _ _ ?_
 refine bceq (fun _ => ?_) (fun h => absurd rfl h)
 refine zaj w hw _ _ ?_
 refine yx c c hc _ _ ?_
 rw [show decide (c = c) = true from decide_eq_true rfl]
 rcases hz1 with rfl | rfl
 ·refine bceq (fun e0 => ?_) (fun e0 => ?_)
  ·refine we ho hd hf2 _ ?_
   refine zrn ho hd hl2.1 hl2.2.1 hl2.2.2 _ ?_
   refine xq w2 hf2 _ _ ?_
   refine bcne (fun h5 => absurd e0 h5) (fun h5 => ?_)
   refine zaj w hw _ _ ?_
   exact ret (h _ (.inl rfl))
  ·have hww := hbw e0
   subst hww
   refine we ho hd hf2 _ ?_
   refine zrn ho hd hl2.1 hl2.2.1 hl2.2.2 _ ?_
   refine xq w2 hf2 _ _ ?_
   refine bcne (fun h5 => ?_) (fun h5 => absurd h5 e0)
   exact ret (h _ (.inl rfl))
 ·refine bceq (fun e0 => absurd (hz0 e0) (fun hh => by have := congrArg (fun l : List AV => l[7]?) hh; simp [zerW, wldC, lst] at this)) (fun e0 => ?_)
  have hww := hbw e0
  subst hww
  refine we ho hd hf2 _ ?_
  refine zrn ho hd hl2.1 hl2.2.1 hl2.2.2 _ ?_
  refine ACalls.le (ys := [.agg (wldC w00q)]) ⟨AV.le_aggL ⟨ar_ _, ar_ _, ar_ _, ar_ _, ar_ _, AV.le_nil 1, AV.le_nil 6, AV.le_nil 10, trivial⟩, trivial⟩ (xq w00q ⟨Nat.zero_le _, Nat.zero_le _, Nat.zero_le _⟩ _ _ ?_)
  refine bcne (fun h5 => ?_) (fun h5 => absurd h5 e0)
  exact ret (h _ (.inr rfl))
end Go.Proofs
namespace Go.Proofs
open Go Go.V
theorem zlf (l : List Cmd) (hl : l.length ≤ 140737488355328) (hu : ∀ c ∈ l, c.sized) (st : Store) (R : AV → Store → Prop)
  (h : ∀ w : Int, l.length ≤ w → (w < 1048576 → ∀ c ∈ l, (c.U.length : Int) ≤ w) → w ≤ 281474976710656 → R (int w) st) : ACalls Tryz.prog 29 [lst 10 cmdC l] st R := by
 refine ACalls.of_body (c := cfg 26) ze Tryz.func29 (by rfl) (by rfl) (by rfl) (by rfl) ?_
 refine AWp.loop (σ := Nat × Int) ⟨fun s => [(0, .av (lst 10 cmdC l)), (3, .av (int s.2)), (4, .av (int (s.1 : Nat)))], fun _ => [],
  fun s st' => s.1 ≤ l.length ∧ st' = st ∧ (l.length : Int) ≤ s.2 ∧ s.2 ≤ 281474976710656 ∧ (s.2 < 1048576 → ∀ c ∈ l.take s.1, (c.U.length : Int) ≤ s.2), fun s => l.length - s.1⟩ ze ?_ ?_
 ·refine ⟨(0, (l.length : Int)), trivial, ⟨Nat.zero_le _, rfl, Int.le_refl _, by simp only; omega, fun _ c hc => by simp at hc⟩, ⟨lr_ _, ?_, lr_ _, trivial⟩, trivial⟩
  rw [← zf (f := cmdC) l]
  exact lr_ _
 rintro ⟨i, n⟩ st' ⟨hi, rfl, hn, hn2, hU⟩
 dsimp only at hi hn hn2 hU ⊢
 refine zd (fun h1 => ?_) (fun h1 => ?_)
 ·have hlt : i < l.length := yw h1
  have hsz := hu _ (List.getElem_mem hlt)
  unfold Cmd.sized at hsz
  refine bcd (fun h2 => ?_) (fun h2 => ?_)
  ·refine ⟨i, rfl, za _ (zi hlt) ?_⟩
   refine ⟨by rw [zf]; exact ⟨by omega, by omega⟩, ?_⟩
   refine ⟨⟨by omega, by omega⟩, ?_⟩
   refine ⟨(i + 1, n + (l[i].U.length : Int)), ?_, ⟨hlt, rfl, by simp only; omega, by simp only; omega, fun h3 c hc => ?_⟩, ⟨lr_ _, ?_, lr_ _, trivial⟩, trivial⟩
   ·show l.length - (i + 1) < l.length - i
    omega
   ·simp only at h3 ⊢
    rw [List.take_succ_eq_append_getElem hlt] at hc
    rcases List.mem_append.1 hc with hc | hc
    ·have := hU (by omega) c hc; omega
    ·rw [List.mem_singleton] at hc
     subst hc; omega
   ·simp only
    rw [← zf (f := intC) l[i].U]
    exact lr_ _
  ·exact ret (h n hn (fun h3 => absurd h3 h2) hn2)
 ·have hge : i = l.length := y9 h1 hi
  subst hge
  rw [List.take_length] at hU
  exact ret (h n hn hU hn2)
theorem zkw (s : Scr) (hf : ∀ c ∈ s.L, c.sized) (st : Store) (R : AV → Store → Prop) (h : ∀ z : Bool, (z = false → ¬ zk0 s.W ∧ s.L.length ≤ 60 ∧ ∀ c ∈ s.L, c.fits) → R (V.bool z) st) : ACalls Tryz.prog 15 [.agg (scrC s)] st R := by
 have yes := h true (fun hh => by cases hh)
 refine ACalls.of_body (c := cfg 18) ze Tryz.func15 (by rfl) (by rfl) (by rfl) (by rfl) ?_
 refine zfr s.W _ _ (fun z hz => ?_)
 refine zd (fun c1 => ret yes) (fun c1 => ?_)
 have hng : ¬ zk0 s.W := fun hh => by have := hz.2 hh; rw [this] at c1; cases c1
 refine zd (fun c2 => ret yes) (fun c2 => ?_)
 have hl : s.L.length ≤ 60 := by
  have c2 := of_decide_eq_false c2
  rw [zf] at c2
  omega
 refine zlf s.L (by omega) hf _ _ (fun n h1 h2 h3 => ?_)
 refine ret (h _ fun hz => ⟨hng, hl, fun c hc => ?_⟩)
 have hz := of_decide_eq_false hz
 have := h2 (by omega) c hc
 unfold Cmd.fits
 omega
end Go.Proofs
namespace Go.Proofs
open Go Go.V
theorem zhu {k : Int} {E : Wld → Cmd → Int} {W : Wld → Cmd → Wld} (hD : vk k E W) (w : Wld) (hw : w.fits) (hn : ∀ u ∈ w.U, u.pos.ok) (hT : w.G.T.length ≤ 1000000) (hB : w.B.length ≤ 1000000) (hU : w.U.length ≤ 1000000)
  (c : Cmd) (hW : mayP w → (W w c).G.T.length ≤ 1000000 ∧ (W w c).B.length ≤ 1000000 ∧ (W w c).U.length ≤ 1000000) (hc : c.fits) (hK : c.K = k) (st : Store) (R : AV → Store → Prop)
  (h : R (.tup [.agg (wldC (doW E W w c)), int (doE E w c)]) st) : ACalls Tryz.prog 21 [.agg (wldC w), .agg (cmdC c)] st R := by
 have h1 := (zht hD w hw hn hT hB hU c hW hc hK (fun r S => ∃ vT vB vU NT NB NU, OwnQ S (doW E W w c) vT vB vU NT NB NU ∧ r = .tup [.agg (wld3 (doW E W w c) vT vB vU), int (doE E w c)]) fun S vT vB vU NT NB NU ho => ⟨vT, vB, vU, NT, NB, NU, ho, rfl⟩).frozen (R := fun r => r = .tup [.agg (wldC (doW E W w c)), int (doE E w c)]) (by
  rintro r S ⟨vT, vB, vU, NT, NB, NU, ho, rfl⟩
  refine ⟨_, rfl, fun Oth M w' v' sto hx => ?_⟩
  cases hx with
  | tup _ c2 hl hc2 =>
   refine .tup _ c2 hl fun i x y hx hy => ?_
   match i with
   | 0 => simp only [List.getElem?_cons_zero, Option.some.injEq] at hx; subst hx; exact zff ho sto (hc2 0 _ y rfl hy)
   | 1 => simp only [List.getElem?_cons_succ, List.getElem?_cons_zero, Option.some.injEq] at hx; subst hx; exact zo (hc2 1 _ y rfl hy)
   | i + 2 => simp at hx)
 have h2 : ACalls Tryz.prog 21 [.agg (wldC w), .agg (cmdC c)] Store.empty fun r S => r = .tup [.agg (wldC (doW E W w c)), int (doE E w c)] ∧ S = Store.empty :=
  h1.post (Store.Le.refl _) fun r st' hr => ⟨r, Store.empty, AV.le_refl r, (hasE st').toLe, hr, rfl⟩
 rw [← ym st]
 exact ACalls.frame (xd st) h2 fun r S ⟨e, e2⟩ hd => by subst e e2; rw [ym]; exact h
theorem zdi (st : Store) (R : AV → Store → Prop) (h : R (V.bool true) st) : ACalls Tryz.prog 19 [] st R := by
 have f1 : w0a.fits := ⟨by unfold Gnd.fits; decide, by decide, by decide⟩
 have f2 : w1a.fits := ⟨by unfold Gnd.fits; decide, by decide, by decide⟩
 have hn2 : ∀ u ∈ w1a.U, u.pos.ok := fun u hu => by
  rcases List.mem_singleton.1 hu with rfl
  unfold Vc.ok yn
  decide
 refine ACalls.of_body (c := cfg 38) ze Tryz.func19 (by rfl) (by rfl) (by rfl) (by rfl) ?_
 refine ⟨by decide, ?_⟩
 refine ACalls.le (ys := [.agg (wldC w0a), .agg (cmdC c0a)]) ⟨AV.le_aggL ⟨ar_ _, ar_ _, ar_ _, ar_ _, ar_ _, ar_ _, AV.le_nil 6, AV.le_nil 10, trivial⟩, AV.le_aggL ⟨ar_ _, ar_ _, ar_ _, ar_ _, AV.le_nil 1, ar_ _, ar_ _, ar_ _, ar_ _, ar_ _, trivial⟩, trivial⟩ ?_
 refine zhu yhg w0a f1 (fun u hu => by cases hu) (by decide) (by decide) (by decide) c0a (fun _ => ⟨by decide, by decide, by decide⟩) (by unfold Cmd.fits; decide) rfl _ _ ?_
 rw [yis, yc6]
 refine ACalls.le (ys := [.agg (wldC w1a), .agg (cmdC c0a)]) ⟨ar_ _, AV.le_aggL ⟨ar_ _, ar_ _, ar_ _, ar_ _, AV.le_nil 1, ar_ _, ar_ _, ar_ _, ar_ _, ar_ _, trivial⟩, trivial⟩ ?_
 refine zhu yhg w1a f2 hn2 (by decide) (by decide) (by decide) c0a (fun _ => ⟨by decide, by decide, by decide⟩) (by unfold Cmd.fits; decide) rfl _ _ ?_
 rw [yit]
 refine zc0 _ _ _ ?_
 refine zc0 _ _ _ ?_
 exact ret h
end Go.Proofs
namespace Go.Proofs
open Go Go.V
theorem zho {n : Int} (h : (Lit.int .i64 n).wf = true) : yn n := by
 simp [Lit.wf, IntKind.min, IntKind.max, IntKind.signed, IntKind.bits] at h
 unfold yn
 omega
theorem zkv : Codec Tryz.prog 2 Int intC yn := (Codec.int Tryz.underlying2).weaken fun _ h => zho h
theorem zx : Codec Tryz.prog 3 Int intC yn := (Codec.int Tryz.underlying3).weaken fun _ h => zho h
theorem znq : Codec Tryz.prog 22 (List UInt8) (fun l => [byts l]) (fun l => l.length ≤ 140737488355328) :=
 (Codec.slice Tryz.underlying22 (k := 1) (by kernel_rfl) (by decide) (of_decide_eq_true (by kernel_rfl)) (Codec.byte Tryz.underlying5)).weaken fun _ h => h.2
theorem zqe : Codec Tryz.prog 36 (List Int) (fun l => [ints l]) (fun l => l.length ≤ 140737488355328 ∧ ∀ n ∈ l, yn n) :=
 (Codec.slice Tryz.underlying36 (k := 1) (by kernel_rfl) (by decide) (of_decide_eq_true (by kernel_rfl)) zx).weaken fun _ h => ⟨h.2, h.1⟩
theorem zjc : Codec Tryz.prog 38 Vc vecC Vc.ok := by
 refine ⟨fun {H} enc w base held fuel cs x hx hw => ?_⟩
 have hu := Tryz.underlying38
 have hl : cs.length = 2 := (jm hu hx).trans (by kernel_rfl)
 obtain ⟨a0, q0, h0⟩ := zj hu hx hw 0 0 1 rfl rfl (by kernel_rfl) zkv
 obtain ⟨a1, q1, h1⟩ := zj hu hx hw 1 1 1 rfl rfl (by kernel_rfl) zkv
 refine ⟨(a0, a1), ⟨q0, q1⟩, ?_⟩
 have := h0.cons rfl (h1.cons rfl (CellsOK.stop hl))
 rw [List.drop_zero] at this
 exact this
theorem zty : Codec Tryz.prog 24 Gnd gndC (fun g => g.T.length ≤ 140737488355328) := by
 refine ⟨fun {H} enc w base held fuel cs x hx hw => ?_⟩
 have hu := Tryz.underlying24
 have hl : cs.length = 3 := (jm hu hx).trans (by kernel_rfl)
 obtain ⟨a0, q0, h0⟩ := zj hu hx hw 0 0 1 rfl rfl (by kernel_rfl) zx
 obtain ⟨a1, q1, h1⟩ := zj hu hx hw 1 1 1 rfl rfl (by kernel_rfl) zx
 obtain ⟨a2, q2, h2⟩ := zj hu hx hw 2 2 1 rfl rfl (by kernel_rfl) znq
 refine ⟨⟨a0, a1, a2⟩, q2, ?_⟩
 have := h0.cons rfl (h1.cons rfl (h2.cons rfl (CellsOK.stop hl)))
 rw [List.drop_zero] at this
 exact this
theorem zun : Codec Tryz.prog 59 Bld bldC (fun _ => True) := by
 refine ⟨fun {H} enc w base held fuel cs x hx hw => ?_⟩
 have hu := Tryz.underlying59
 have hl : cs.length = 6 := (jm hu hx).trans (by kernel_rfl)
 obtain ⟨a0, q0, h0⟩ := zj hu hx hw 0 0 1 rfl rfl (by kernel_rfl) zx
 obtain ⟨a1, q1, h1⟩ := zj hu hx hw 1 1 1 rfl rfl (by kernel_rfl) zx
 obtain ⟨a2, q2, h2⟩ := zj hu hx hw 2 2 1 rfl rfl (by kernel_rfl) zx
 obtain ⟨a3, q3, h3⟩ := zj hu hx hw 3 3 1 rfl rfl (by kernel_rfl) zx
 obtain ⟨a4, q4, h4⟩ := zj hu hx hw 4 4 1 rfl rfl (by kernel_rfl) zx
 obtain ⟨a5, q5, h5⟩ := zj hu hx hw 5 5 1 rfl rfl (by kernel_rfl) zx
 refine ⟨⟨a0, a1, a2, a3, a4, a5⟩, trivial, ?_⟩
 have := h0.cons rfl (h1.cons rfl (h2.cons rfl (h3.cons rfl (h4.cons rfl (h5.cons rfl (CellsOK.stop hl))))))
 rw [List.drop_zero] at this
 exact this
theorem zq5 : Codec Tryz.prog 25 (List Bld) (fun l => [lst 6 bldC l]) (fun l => l.length ≤ 140737488355328) :=
 (Codec.slice Tryz.underlying25 (k := 6) (by kernel_rfl) (by decide) (of_decide_eq_true (by kernel_rfl)) zun).weaken fun _ h => h.2
theorem zrh : Codec Tryz.prog 50 Unt untC (fun u => u.pos.ok) := by
 refine ⟨fun {H} enc w base held fuel cs x hx hw => ?_⟩
 have hu := Tryz.underlying50
 have hl : cs.length = 10 := (jm hu hx).trans (by kernel_rfl)
 obtain ⟨a0, q0, h0⟩ := zj hu hx hw 0 0 1 rfl rfl (by kernel_rfl) zx
 obtain ⟨a1, q1, h1⟩ := zj hu hx hw 1 1 1 rfl rfl (by kernel_rfl) zx
 obtain ⟨a2, q2, h2⟩ := zj hu hx hw 2 2 1 rfl rfl (by kernel_rfl) zx
 obtain ⟨a3, q3, h3⟩ := zj hu hx hw 3 3 2 rfl rfl (by kernel_rfl) zjc
 obtain ⟨a4, q4, h4⟩ := zj hu hx hw 4 5 1 rfl rfl (by kernel_rfl) zx
 obtain ⟨a5, q5, h5⟩ := zj hu hx hw 5 6 1 rfl rfl (by kernel_rfl) zx
 obtain ⟨a6, q6, h6⟩ := zj hu hx hw 6 7 1 rfl rfl (by kernel_rfl) zx
 obtain ⟨a7, q7, h7⟩ := zj hu hx hw 7 8 1 rfl rfl (by kernel_rfl) zx
 obtain ⟨a8, q8, h8⟩ := zj hu hx hw 8 9 1 rfl rfl (by kernel_rfl) zx
 refine ⟨⟨a0, a1, a2, a3, a4, a5, a6, a7, a8⟩, q3, ?_⟩
 have := h0.cons rfl (h1.cons rfl (h2.cons rfl (h3.cons rfl (h4.cons rfl (h5.cons rfl (h6.cons rfl (h7.cons rfl (h8.cons rfl (CellsOK.stop hl)))))))))
 rw [List.drop_zero] at this
 exact this
theorem zpb : Codec Tryz.prog 26 (List Unt) (fun l => [lst 10 untC l]) (fun l => l.length ≤ 140737488355328 ∧ ∀ u ∈ l, u.pos.ok) :=
 (Codec.slice Tryz.underlying26 (k := 10) (by kernel_rfl) (by decide) (of_decide_eq_true (by kernel_rfl)) zrh).weaken fun _ h => ⟨h.2, h.1⟩
theorem zrg : Codec Tryz.prog 28 Wld wldC (fun w => ∀ u ∈ w.U, u.pos.ok) := by
 refine ⟨fun {H} enc w base held fuel cs x hx hw => ?_⟩
 have hu := Tryz.underlying28
 have hl : cs.length = 8 := (jm hu hx).trans (by kernel_rfl)
 obtain ⟨a0, q0, h0⟩ := zj hu hx hw 0 0 1 rfl rfl (by kernel_rfl) zx
 obtain ⟨a1, q1, h1⟩ := zj hu hx hw 1 1 1 rfl rfl (by kernel_rfl) zx
 obtain ⟨a2, q2, h2⟩ := zj hu hx hw 2 2 1 rfl rfl (by kernel_rfl) zx
 obtain ⟨a3, q3, h3⟩ := zj hu hx hw 3 3 3 rfl rfl (by kernel_rfl) zty
 obtain ⟨a4, q4, h4⟩ := zj hu hx hw 4 6 1 rfl rfl (by kernel_rfl) zq5
 obtain ⟨a5, q5, h5⟩ := zj hu hx hw 5 7 1 rfl rfl (by kernel_rfl) zpb
 refine ⟨⟨a0, a1, a2, a3, a4, a5⟩, q5.2, ?_⟩
 have := h0.cons rfl (h1.cons rfl (h2.cons rfl (h3.cons rfl (h4.cons rfl (h5.cons rfl (CellsOK.stop hl))))))
 rw [List.drop_zero] at this
 exact this
theorem zug : Codec Tryz.prog 40 Cmd cmdC Cmd.sized := by
 refine ⟨fun {H} enc w base held fuel cs x hx hw => ?_⟩
 have hu := Tryz.underlying40
 have hl : cs.length = 10 := (jm hu hx).trans (by kernel_rfl)
 obtain ⟨a0, q0, h0⟩ := zj hu hx hw 0 0 1 rfl rfl (by kernel_rfl) zx
 obtain ⟨a1, q1, h1⟩ := zj hu hx hw 1 1 1 rfl rfl (by kernel_rfl) zx
 obtain ⟨a2, q2, h2⟩ := zj hu hx hw 2 2 1 rfl rfl (by kernel_rfl) zx
 obtain ⟨a3, q3, h3⟩ := zj hu hx hw 3 3 1 rfl rfl (by kernel_rfl) zx
 obtain ⟨a4, q4, h4⟩ := zj hu hx hw 4 4 1 rfl rfl (by kernel_rfl) zqe
 obtain ⟨a5, q5, h5⟩ := zj hu hx hw 5 5 1 rfl rfl (by kernel_rfl) zx
 obtain ⟨a6, q6, h6⟩ := zj hu hx hw 6 6 1 rfl rfl (by kernel_rfl) zx
 obtain ⟨a7, q7, h7⟩ := zj hu hx hw 7 7 1 rfl rfl (by kernel_rfl) zx
 obtain ⟨a8, q8, h8⟩ := zj hu hx hw 8 8 2 rfl rfl (by kernel_rfl) zjc
 refine ⟨⟨a0, a1, a2, a3, a4, a5, a6, a7, a8.1, a8.2⟩, q4.1, ?_⟩
 have := h0.cons rfl (h1.cons rfl (h2.cons rfl (h3.cons rfl (h4.cons rfl (h5.cons rfl (h6.cons rfl (h7.cons rfl (h8.cons rfl (CellsOK.stop hl)))))))))
 rw [List.drop_zero] at this
 exact this
theorem zq2 : Codec Tryz.prog 29 (List Cmd) (fun l => [lst 10 cmdC l]) (fun l => l.length ≤ 140737488355328 ∧ ∀ c ∈ l, c.sized) :=
 (Codec.slice Tryz.underlying29 (k := 10) (by kernel_rfl) (by decide) (of_decide_eq_true (by kernel_rfl)) zug).weaken fun _ h => ⟨h.2, h.1⟩
def Scr.good (s : Scr) : Prop := (∀ u ∈ s.W.U, u.pos.ok) ∧ ∀ c ∈ s.L, c.sized
theorem scr_codec : Codec Tryz.prog 31 Scr scrC Scr.good := by
 refine ⟨fun {H} enc w base held fuel cs x hx hw => ?_⟩
 have hu := Tryz.underlying31
 have hl : cs.length = 9 := (jm hu hx).trans (by kernel_rfl)
 obtain ⟨a0, q0, h0⟩ := zj hu hx hw 0 0 8 rfl rfl (by kernel_rfl) zrg
 obtain ⟨a1, q1, h1⟩ := zj hu hx hw 1 8 1 rfl rfl (by kernel_rfl) zq2
 refine ⟨⟨a0, a1⟩, ⟨q0, q1.2⟩, ?_⟩
 have := h0.cons rfl (h1.cons rfl (CellsOK.stop hl))
 rw [List.drop_zero] at this
 exact this
end Go.Proofs
