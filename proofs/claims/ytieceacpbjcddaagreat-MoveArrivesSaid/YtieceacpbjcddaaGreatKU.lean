/- Ground of laws of thronglaw24: contracts and plain lemmas; no condition beyond the row's own. -/
import Derived.Test.YtieceacpbjcddaaGreatKT
set_option linter.unusedSimpArgs false
set_option linter.unusedVariables false
set_option linter.defProp false
namespace Go.Proofs
open Go Go.V
set_option maxRecDepth 4000
/-- A guide behind its interface. -/
abbrev gvOf (gt : TypeId) (gx : Value) : AV := .s (.iface gt gx)
theorem un_comm {a g : Store} (hd : zv a g) : a.un g = g.un a := by
 show Store.mk _ _ = Store.mk _ _
 congr 1
 ·funext i
  show (match g.obj i with | some x => some x | none => a.obj i) = match a.obj i with | some x => some x | none => g.obj i
  cases h1 : a.obj i with
  | none => cases g.obj i <;> rfl
  | some x => rw [(Bk (hd i (Bq h1))).1]
 ·funext i
  show (match g.tok i with | some x => some x | none => a.tok i) = match a.tok i with | some x => some x | none => g.tok i
  cases h1 : a.tok i with
  | none => cases g.tok i <;> rfl
  | some x => rw [(Bk (hd i (Gh h1))).2]
theorem Lp {a g : Store} (h : zv a g) : zv g a := fun b h1 h2 => h b h2 h1
/-- A guide: 'K n' holds of its own memory; so often it was asked for ways. -/
structure GuideK (gt : TypeId) (gx : Value) (K : Nat -> Store -> Prop) (M : Nat) (w : Wld) : Prop where
 net : ∀ {n : Nat} {N : Store} {c s : Int}, K n N -> (c = 0 \/ c = 1 \/ c = 2) -> (0 <= s /\ s <= 3) -> ∀ R : AV -> Store -> Prop, (∀ b N', K n N' -> N'.obj b = some (.cells (Au w.G w.B c s)) -> R (ptr b) N') ->
  ∃ g x, Meets Tryz.prog gt gx "Net" g x /\ ACalls Tryz.prog g [x, .agg (zr w.G), lst 6 zz w.B, int c, int s] N R
 ways : ∀ {n : Nat} {N : Store} {c s : Int}, K n N -> n < M -> (c = 0 \/ c = 1 \/ c = 2) -> (0 <= s /\ s <= 3) -> ∀ goal : Nat, goal < w.G.T.length -> ∀ R : AV -> Store -> Prop,
  (∀ b N', K (n + 1) N' -> N'.obj b = some (.cells (il w.G.T.length (qb w.G (zf w.G w.B c s) c (yl w.G (zf w.G w.B c s) c goal)))) -> R (.s (.slice (some ⟨b, 0, none⟩) w.G.T.length w.G.T.length)) N') ->
  ∃ g x, Meets Tryz.prog gt gx "Ways" g x /\ ACalls Tryz.prog g [x, .agg (zr w.G), lst 6 zz w.B, int c, int s, int (goal : Nat)] N R
theorem GuideK.netX {gt : TypeId} {gx : Value} {K : Nat -> Store -> Prop} {M n : Nat} {w : Wld} (hG : GuideK gt gx K M w) {X N : Store} (hd : zv X N) (hK : K n N) {c s : Int} (hc : c = 0 \/ c = 1 \/ c = 2) (hs : 0 <= s /\ s <= 3) (R : AV -> Store -> Prop)
  (h : ∀ b N2, zv X N2 -> K n N2 -> N2.obj b = some (.cells (Au w.G w.B c s)) -> R (ptr b) (X.un N2)) : ∃ g x, Meets Tryz.prog gt gx "Net" g x /\ ACalls Tryz.prog g [x, .agg (zr w.G), lst 6 zz w.B, int c, int s] (X.un N) R := by
 obtain ⟨g, x, hm, hcl⟩ := hG.net hK hc hs (fun r S => ∃ b, r = ptr b /\ K n S /\ S.obj b = some (.cells (Au w.G w.B c s))) (fun b N' h1 h2 => ⟨b, rfl, h1, h2⟩)
 refine ⟨g, x, hm, ?_⟩
 rw [un_comm hd]
 refine ACalls.frame (Lp hd) hcl ?_
 rintro r a' ⟨b, rfl, h1, h2⟩ hd2
 rw [un_comm hd2]
 exact h b a' (Lp hd2) h1 h2
theorem GuideK.waysX {gt : TypeId} {gx : Value} {K : Nat -> Store -> Prop} {M n : Nat} {w : Wld} (hG : GuideK gt gx K M w) {X N : Store} (hd : zv X N) (hK : K n N) (hn : n < M) {c s : Int} (hc : c = 0 \/ c = 1 \/ c = 2) (hs : 0 <= s /\ s <= 3) (goal : Nat) (hgo : goal < w.G.T.length) (R : AV -> Store -> Prop)
  (h : ∀ b N2, zv X N2 -> K (n + 1) N2 -> N2.obj b = some (.cells (il w.G.T.length (qb w.G (zf w.G w.B c s) c (yl w.G (zf w.G w.B c s) c goal)))) -> R (.s (.slice (some ⟨b, 0, none⟩) w.G.T.length w.G.T.length)) (X.un N2)) :
  ∃ g x, Meets Tryz.prog gt gx "Ways" g x /\ ACalls Tryz.prog g [x, .agg (zr w.G), lst 6 zz w.B, int c, int s, int (goal : Nat)] (X.un N) R := by
 obtain ⟨g, x, hm, hcl⟩ := hG.ways hK hn hc hs goal hgo (fun r S => ∃ b, r = .s (.slice (some ⟨b, 0, none⟩) w.G.T.length w.G.T.length) /\ K (n + 1) S /\ S.obj b = some (.cells (il w.G.T.length (qb w.G (zf w.G w.B c s) c (yl w.G (zf w.G w.B c s) c goal))))) (fun b N' h1 h2 => ⟨b, rfl, h1, h2⟩)
 refine ⟨g, x, hm, ?_⟩
 rw [un_comm hd]
 refine ACalls.frame (Lp hd) hcl ?_
 rintro r a' ⟨b, rfl, h1, h2⟩ hd2
 rw [un_comm hd2]
 exact h b a' (Lp hd2) h1 h2
set_option maxHeartbeats 4000000 in
set_option maxRecDepth 20000 in
theorem zrj {gt : TypeId} {gx : Value} {K : Nat -> Store -> Prop} {M n : Nat} {w : Wld} (hG : GuideK gt gx K M w) {X N : Store} (hd : zv X N) (hK : K n N) {mb s p : Nat} {v o0 o1 o2 : AV} (hmbX : X.obj mb = some (.cells [ptr s, gvOf gt gx])) (hsX : X.obj s = some (.cells (svC w v o0 o1 o2 p))) (hm : MayF w) (u : Unt) (hnx : u.next = -1 \/ ∃ t : Nat, u.next = t /\ t < w.G.T.length) (own : Nat) (ho : own < w.G.T.length) (R : AV -> Store -> Prop)
  (h : ∀ N2, zv X N2 -> K n N2 -> R (V.bool (ko w u own)) (X.un N2)) : ACalls Tryz.prog 148 [ptr mb, .agg (zp u), int (own : Nat)] (X.un N) R := by
 obtain ⟨S, hSe⟩ : ∃ S, X.un N = S := ⟨_, rfl⟩
 have hmb : S.obj mb = some (.cells [ptr s, gvOf gt gx]) := hSe ▸ qj hd hmbX
 have hs : S.obj s = some (.cells (svC w v o0 o1 o2 p)) := hSe ▸ qj hd hsX
 rw [hSe]
 have hB := hm.hB
 unfold ko okU at h
 refine ACalls.of_awp (c := cfg 77 [9] []) zb Tryz.func148 (by rfl) (by rfl) (by rfl) (by rfl) ?_
 refine AWp.seq (AWp.of_vc zb ?_)
 refine AWp.meet (σ := Unit) ⟨fun _ => [(0, .av (ptr mb)), (2, .av (int (own : Nat))), (4, .bx 4 0), (7, .bx 7 0), (8, .bx 8 0)], fun _ => [(4, zp u), (7, zr w.G), (8, v8 u.kind)], fun _ st' => st' = S⟩ zb ?_ ?_
 ·refine ADraw.of_sched zb (by rfl) (by rfl) zmu (by rfl) ?_
  refine za (o := S.obj mb) _ hmb ?_
  refine za (o := S.obj s) _ hs ?_
  exact ⟨xx _ _ _ ⟨(by repeat (first | exact Tv | refine ⟨rfl, ?_⟩ | refine ⟨za (o := S.obj mb) _ hmb rfl, ?_⟩ | refine ⟨za (o := S.obj s) _ hs rfl, ?_⟩)), ⟨⟨(by repeat (first | exact Tv | refine ⟨rfl, ?_⟩ | refine ⟨za (o := S.obj mb) _ hmb rfl, ?_⟩ | refine ⟨za (o := S.obj s) _ hs rfl, ?_⟩)), ⟨⟨(by repeat (first | exact Tv | refine ⟨rfl, ?_⟩ | refine ⟨za (o := S.obj mb) _ hmb rfl, ?_⟩ | refine ⟨za (o := S.obj s) _ hs rfl, ?_⟩)), ⟨⟨Tv, ⟨⟨Tv, ⟨(), rfl, ⟨Tq, Tq, Tq, Tq, Tq, Tv⟩, ⟨rfl, rfl, rfl, Tv⟩⟩⟩, Tv⟩⟩, Tv⟩⟩, Tv⟩⟩, ⟨⟨(by repeat (first | exact Tv | refine ⟨rfl, ?_⟩ | refine ⟨za (o := S.obj mb) _ hmb rfl, ?_⟩ | refine ⟨za (o := S.obj s) _ hs rfl, ?_⟩)), ⟨⟨(by repeat (first | exact Tv | refine ⟨rfl, ?_⟩ | refine ⟨za (o := S.obj mb) _ hmb rfl, ?_⟩ | refine ⟨za (o := S.obj s) _ hs rfl, ?_⟩)), ⟨⟨Tv, ⟨⟨Tv, ⟨(), rfl, ⟨Tq, Tq, Tq, Tq, Tq, Tv⟩, ⟨rfl, rfl, rfl, Tv⟩⟩⟩, Tv⟩⟩, Tv⟩⟩, Tv⟩⟩, Tv⟩⟩⟩, ⟨⟨(by repeat (first | exact Tv | refine ⟨rfl, ?_⟩ | refine ⟨za (o := S.obj mb) _ hmb rfl, ?_⟩ | refine ⟨za (o := S.obj s) _ hs rfl, ?_⟩)), ⟨xx _ _ _ ⟨(by repeat (first | exact Tv | refine ⟨rfl, ?_⟩ | refine ⟨za (o := S.obj mb) _ hmb rfl, ?_⟩ | refine ⟨za (o := S.obj s) _ hs rfl, ?_⟩)), ⟨⟨(by repeat (first | exact Tv | refine ⟨rfl, ?_⟩ | refine ⟨za (o := S.obj mb) _ hmb rfl, ?_⟩ | refine ⟨za (o := S.obj s) _ hs rfl, ?_⟩)), ⟨⟨Tv, ⟨⟨Tv, ⟨(), rfl, ⟨Tq, Tq, Tq, Tq, Tq, Tv⟩, ⟨rfl, rfl, rfl, Tv⟩⟩⟩, Tv⟩⟩, Tv⟩⟩, Tv⟩⟩, ⟨⟨(by repeat (first | exact Tv | refine ⟨rfl, ?_⟩ | refine ⟨za (o := S.obj mb) _ hmb rfl, ?_⟩ | refine ⟨za (o := S.obj s) _ hs rfl, ?_⟩)), ⟨xx _ _ _ ⟨(by repeat (first | exact Tv | refine ⟨rfl, ?_⟩ | refine ⟨za (o := S.obj mb) _ hmb rfl, ?_⟩ | refine ⟨za (o := S.obj s) _ hs rfl, ?_⟩)), ⟨⟨Tv, ⟨⟨Tv, ⟨(), rfl, ⟨Tq, Tq, Tq, Tq, Tq, Tv⟩, ⟨rfl, rfl, rfl, Tv⟩⟩⟩, Tv⟩⟩, Tv⟩⟩, Tv⟩⟩, Tv⟩⟩⟩, ⟨⟨(by repeat (first | exact Tv | refine ⟨rfl, ?_⟩ | refine ⟨za (o := S.obj mb) _ hmb rfl, ?_⟩ | refine ⟨za (o := S.obj s) _ hs rfl, ?_⟩)), ⟨xx _ _ _ ⟨(by repeat (first | exact Tv | refine ⟨rfl, ?_⟩ | refine ⟨za (o := S.obj mb) _ hmb rfl, ?_⟩ | refine ⟨za (o := S.obj s) _ hs rfl, ?_⟩)), ⟨⟨(by repeat (first | exact Tv | refine ⟨rfl, ?_⟩ | refine ⟨za (o := S.obj mb) _ hmb rfl, ?_⟩ | refine ⟨za (o := S.obj s) _ hs rfl, ?_⟩)), ⟨⟨Tv, ⟨⟨Tv, ⟨(), rfl, ⟨Tq, Tq, Tq, Tq, Tq, Tv⟩, ⟨rfl, rfl, rfl, Tv⟩⟩⟩, Tv⟩⟩, Tv⟩⟩, Tv⟩⟩, ⟨⟨(by repeat (first | exact Tv | refine ⟨rfl, ?_⟩ | refine ⟨za (o := S.obj mb) _ hmb rfl, ?_⟩ | refine ⟨za (o := S.obj s) _ hs rfl, ?_⟩)), ⟨xx _ _ _ ⟨(by repeat (first | exact Tv | refine ⟨rfl, ?_⟩ | refine ⟨za (o := S.obj mb) _ hmb rfl, ?_⟩ | refine ⟨za (o := S.obj s) _ hs rfl, ?_⟩)), ⟨⟨Tv, ⟨⟨Tv, ⟨(), rfl, ⟨Tq, Tq, Tq, Tq, Tq, Tv⟩, ⟨rfl, rfl, rfl, Tv⟩⟩⟩, Tv⟩⟩, Tv⟩⟩, Tv⟩⟩, Tv⟩⟩⟩, Tv⟩⟩⟩
 rintro _ st' rfl
 refine AWp.of_vc zb ?_
 have hk := cw u.kind
 refine ADraw.of_sched zb (by rfl) (by rfl) zmt (by rfl) ?_
 refine yj (fun c1 => ?_) (fun c1 => ?_)
 ·refine ⟨⟨(by repeat (first | exact Tv | refine ⟨rfl, ?_⟩ | refine ⟨optR (optR (optR (za _ (zd _ _ _) rfl))), ?_⟩)), ?_⟩, Tv⟩
  refine ⟨⟨(by repeat (first | exact Tv | refine ⟨rfl, ?_⟩ | refine ⟨optR (optR (optR (za _ (zd _ _ _) rfl))), ?_⟩)), ?_⟩, Tv⟩
  rw [decide_eq_true c1] at h
  have h0 := h N hd hK
  rw [hSe] at h0
  exact ret h0
 obtain ⟨t, ht, htl⟩ : ∃ t : Nat, u.next = t /\ t < w.G.T.length := by
  rcases hnx with h1 | h1
  ·exact absurd h1 c1
  ·exact h1
 rw [decide_eq_false c1, ht, Int.toNat_natCast] at h
 refine ⟨Kp w.G hm.hg t htl u.next ht _ _ ⟨(by repeat (first | exact Tv | refine ⟨rfl, ?_⟩ | refine ⟨optR (optR (optR (za _ (zd _ _ _) rfl))), ?_⟩)), ?_⟩, Tv⟩
 refine zh (fun c2 => ?_) (fun c2 => ?_)
 ·refine ⟨⟨(by repeat (first | exact Tv | refine ⟨rfl, ?_⟩ | refine ⟨optR (optR (optR (za _ (zd _ _ _) rfl))), ?_⟩)), ?_⟩, Tv⟩
  have e : u.pos = zg w.G t := by
   simp only [Bool.and_eq_true, beq_iff_eq] at c2
   exact Prod.ext c2.1 c2.2.1
  rw [decide_eq_true e] at h
  have h0 := h N hd hK
  rw [hSe] at h0
  exact ret h0
 have e : ¬ u.pos = zg w.G t := fun e => by
  simp only [e, Bool.and_eq_false_iff, beq_eq_false_iff_ne] at c2
  rcases c2 with c2 | c2 | c2
  ·exact c2 rfl
  ·exact c2 rfl
  ·cases c2
 rw [decide_eq_false e] at h
 refine za (o := st'.obj mb) _ hmb ?_
 refine za (o := st'.obj mb) _ hmb ?_
 refine za (o := st'.obj s) _ hs ?_
 subst hSe
 refine ⟨hG.netX hd hK (Hz u.kind) hk _ (fun b N2 hd2 hK2 hb2 => ⟨(by repeat (first | exact Tv | refine ⟨rfl, ?_⟩ | refine ⟨optR (optR (optR (za _ (zd _ _ _) rfl))), ?_⟩)), ?_⟩), Tv⟩
 have hmb2 : (X.un N2).obj b = some (.cells (Au w.G w.B (zm u.kind) (zx u.kind))) := ze hb2
 have h0 := h N2 hd2 hK2
 generalize X.un N2 = S2 at *
 refine za (o := S2.obj b) _ hmb2 ?_
 have htl2 : t < (blL w.G.T.length (zf w.G w.B (zm u.kind) (zx u.kind))).length := by rw [qq]; exact htl
 refine ⟨t, ht, za _ (zn htl2) ?_⟩
 rw [kr htl]
 refine yf ?_
 refine zh (fun c3 => ?_) (fun c3 => ?_)
 rotate_left
 ·rw [c3] at h0
  exact ret h0
 rw [c3] at h0
 refine L9 w.G hm.hg own ho _ _ ?_
 intro b9 hf9
 have e9 : z7 (List.replicate 8 (int 0)) 0 (il 8 (zo w.G own)) = il 8 (zo w.G own) := by
  unfold z7
  rw [y9]
  simp
 refine wt (i := ti213) (v := Gz w.G own) (xs := il 8 (zo w.G own)) (l := List.replicate 8 (int 0)) rfl rfl rfl (zd _ _ _) (by rw [y9, List.length_replicate]; decide) ?_
 rw [e9, yx]
 have h9 : (S2.setObj b9 (.cells (il 8 (zo w.G own)))).obj b9 = some (.cells (il 8 (zo w.G own))) := zd _ _ _
 have hback2 : (S2.setObj b9 (.cells (il 8 (zo w.G own)))).Has S2 := Ay hf9.1
 generalize S2.setObj b9 (.cells (il 8 (zo w.G own))) = S3 at *
 rw [zqt] at h0
 refine ADraw.of_sched zb (by rfl) (by rfl) zms (by rfl) ?_
 refine xd (fun c4 => ?_) (fun c4 => ?_)
 rotate_left
 ·refine ⟨⟨(by repeat (first | exact Tv | refine ⟨rfl, ?_⟩ | refine ⟨optR (optR (optR (za _ (zd _ _ _) rfl))), ?_⟩)), ?_⟩, Tv⟩
  refine ⟨⟨Tv, ?_⟩, Tv⟩
  rw [decide_eq_false (fun hh => hh (ht.symm.trans c4))] at h0
  exact vg (Tt) hback2 h0
 refine ⟨zvx h9 (by decide) u.next _ ⟨(by repeat (first | exact Tv | refine ⟨rfl, ?_⟩ | refine ⟨optR (optR (optR (za _ (zd _ _ _) rfl))), ?_⟩)), ?_⟩, Tv⟩
 refine ⟨⟨Tv, ?_⟩, Tv⟩
 rw [decide_eq_true (show (t : Int) ≠ (own : Int) from fun hh => c4 (ht.trans hh))] at h0
 rw [ht]
 exact vg (Tt) hback2 h0
set_option maxHeartbeats 4000000 in
set_option maxRecDepth 20000 in
theorem zql {gt : TypeId} {gx : Value} {K : Nat -> Store -> Prop} {M n : Nat} {w : Wld} (hG : GuideK gt gx K M w) (hnM : n < M) {X N : Store} (hd : zv X N) (hK : K n N) {mb s p : Nat} {v o0 o1 o2 : AV} (hmbX : X.obj mb = some (.cells [ptr s, gvOf gt gx])) (hsX : X.obj s = some (.cells (svC w v o0 o1 o2 p))) (hm : MayF w) (u : Unt) (goal : Nat) (hgo : u.goal = goal) (hgl : goal < w.G.T.length) (own : Nat) (ho : own < w.G.T.length) (R : AV -> Store -> Prop)
  (h : ∀ n2 N2, n2 <= n + 1 -> zv X N2 -> K n2 N2 -> R (int (qz w u own)) (X.un N2)) : ACalls Tryz.prog 149 [ptr mb, .agg (zp u), int (own : Nat)] (X.un N) R := by
 obtain ⟨S, hSe⟩ : ∃ S, X.un N = S := ⟨_, rfl⟩
 have hmb : S.obj mb = some (.cells [ptr s, gvOf gt gx]) := hSe ▸ qj hd hmbX
 have hs : S.obj s = some (.cells (svC w v o0 o1 o2 p)) := hSe ▸ qj hd hsX
 rw [hSe]
 have hB := hm.hB
 unfold qz okU at h
 have hk := cw u.kind
 rw [hgo, Int.toNat_natCast] at h
 refine ACalls.of_awp (c := cfg 60) zb Tryz.func149 (by rfl) (by rfl) (by rfl) (by rfl) ?_
 refine AWp.seq (AWp.of_vc zb ?_)
 refine AWp.meet (σ := Unit) ⟨fun _ => [(0, .av (ptr mb)), (2, .av (int (own : Nat))), (4, .bx 4 0), (7, .bx 7 0), (8, .bx 8 0)], fun _ => [(4, zp u), (7, zr w.G), (8, v8 u.kind)], fun _ st' => st' = S⟩ zb ?_ ?_
 ·refine ADraw.of_sched zb (by rfl) (by rfl) zmr (by rfl) ?_
  refine za (o := S.obj mb) _ hmb ?_
  refine za (o := S.obj s) _ hs ?_
  exact ⟨xx _ _ _ ⟨(by repeat (first | exact Tv | refine ⟨rfl, ?_⟩ | refine ⟨za (o := S.obj mb) _ hmb rfl, ?_⟩ | refine ⟨za (o := S.obj s) _ hs rfl, ?_⟩)), ⟨⟨(by repeat (first | exact Tv | refine ⟨rfl, ?_⟩ | refine ⟨za (o := S.obj mb) _ hmb rfl, ?_⟩ | refine ⟨za (o := S.obj s) _ hs rfl, ?_⟩)), ⟨⟨(by repeat (first | exact Tv | refine ⟨rfl, ?_⟩ | refine ⟨za (o := S.obj mb) _ hmb rfl, ?_⟩ | refine ⟨za (o := S.obj s) _ hs rfl, ?_⟩)), ⟨⟨Tv, ⟨⟨Tv, ⟨(), rfl, ⟨Tq, Tq, Tq, Tq, Tq, Tv⟩, ⟨rfl, rfl, rfl, Tv⟩⟩⟩, Tv⟩⟩, Tv⟩⟩, Tv⟩⟩, ⟨⟨(by repeat (first | exact Tv | refine ⟨rfl, ?_⟩ | refine ⟨za (o := S.obj mb) _ hmb rfl, ?_⟩ | refine ⟨za (o := S.obj s) _ hs rfl, ?_⟩)), ⟨⟨(by repeat (first | exact Tv | refine ⟨rfl, ?_⟩ | refine ⟨za (o := S.obj mb) _ hmb rfl, ?_⟩ | refine ⟨za (o := S.obj s) _ hs rfl, ?_⟩)), ⟨⟨Tv, ⟨⟨Tv, ⟨(), rfl, ⟨Tq, Tq, Tq, Tq, Tq, Tv⟩, ⟨rfl, rfl, rfl, Tv⟩⟩⟩, Tv⟩⟩, Tv⟩⟩, Tv⟩⟩, Tv⟩⟩⟩, ⟨⟨(by repeat (first | exact Tv | refine ⟨rfl, ?_⟩ | refine ⟨za (o := S.obj mb) _ hmb rfl, ?_⟩ | refine ⟨za (o := S.obj s) _ hs rfl, ?_⟩)), ⟨xx _ _ _ ⟨(by repeat (first | exact Tv | refine ⟨rfl, ?_⟩ | refine ⟨za (o := S.obj mb) _ hmb rfl, ?_⟩ | refine ⟨za (o := S.obj s) _ hs rfl, ?_⟩)), ⟨⟨(by repeat (first | exact Tv | refine ⟨rfl, ?_⟩ | refine ⟨za (o := S.obj mb) _ hmb rfl, ?_⟩ | refine ⟨za (o := S.obj s) _ hs rfl, ?_⟩)), ⟨⟨Tv, ⟨⟨Tv, ⟨(), rfl, ⟨Tq, Tq, Tq, Tq, Tq, Tv⟩, ⟨rfl, rfl, rfl, Tv⟩⟩⟩, Tv⟩⟩, Tv⟩⟩, Tv⟩⟩, ⟨⟨(by repeat (first | exact Tv | refine ⟨rfl, ?_⟩ | refine ⟨za (o := S.obj mb) _ hmb rfl, ?_⟩ | refine ⟨za (o := S.obj s) _ hs rfl, ?_⟩)), ⟨xx _ _ _ ⟨(by repeat (first | exact Tv | refine ⟨rfl, ?_⟩ | refine ⟨za (o := S.obj mb) _ hmb rfl, ?_⟩ | refine ⟨za (o := S.obj s) _ hs rfl, ?_⟩)), ⟨⟨Tv, ⟨⟨Tv, ⟨(), rfl, ⟨Tq, Tq, Tq, Tq, Tq, Tv⟩, ⟨rfl, rfl, rfl, Tv⟩⟩⟩, Tv⟩⟩, Tv⟩⟩, Tv⟩⟩, Tv⟩⟩⟩, ⟨⟨(by repeat (first | exact Tv | refine ⟨rfl, ?_⟩ | refine ⟨za (o := S.obj mb) _ hmb rfl, ?_⟩ | refine ⟨za (o := S.obj s) _ hs rfl, ?_⟩)), ⟨xx _ _ _ ⟨(by repeat (first | exact Tv | refine ⟨rfl, ?_⟩ | refine ⟨za (o := S.obj mb) _ hmb rfl, ?_⟩ | refine ⟨za (o := S.obj s) _ hs rfl, ?_⟩)), ⟨⟨(by repeat (first | exact Tv | refine ⟨rfl, ?_⟩ | refine ⟨za (o := S.obj mb) _ hmb rfl, ?_⟩ | refine ⟨za (o := S.obj s) _ hs rfl, ?_⟩)), ⟨⟨Tv, ⟨⟨Tv, ⟨(), rfl, ⟨Tq, Tq, Tq, Tq, Tq, Tv⟩, ⟨rfl, rfl, rfl, Tv⟩⟩⟩, Tv⟩⟩, Tv⟩⟩, Tv⟩⟩, ⟨⟨(by repeat (first | exact Tv | refine ⟨rfl, ?_⟩ | refine ⟨za (o := S.obj mb) _ hmb rfl, ?_⟩ | refine ⟨za (o := S.obj s) _ hs rfl, ?_⟩)), ⟨xx _ _ _ ⟨(by repeat (first | exact Tv | refine ⟨rfl, ?_⟩ | refine ⟨za (o := S.obj mb) _ hmb rfl, ?_⟩ | refine ⟨za (o := S.obj s) _ hs rfl, ?_⟩)), ⟨⟨Tv, ⟨⟨Tv, ⟨(), rfl, ⟨Tq, Tq, Tq, Tq, Tq, Tv⟩, ⟨rfl, rfl, rfl, Tv⟩⟩⟩, Tv⟩⟩, Tv⟩⟩, Tv⟩⟩, Tv⟩⟩⟩, Tv⟩⟩⟩
 rintro _ st' rfl
 refine AWp.of_vc zb ?_
 refine ADraw.of_sched zb (by rfl) (by rfl) zmq (by rfl) ?_
 refine ⟨Kp w.G hm.hg own ho (own : Nat) rfl _ _ ⟨(by repeat (first | exact Tv | refine ⟨rfl, ?_⟩ | refine ⟨optR (optR (optR (za _ (zd _ _ _) rfl))), ?_⟩)), ?_⟩, Tv⟩
 refine yf ?_
 refine zh (fun c2 => ?_) (fun c2 => ?_)
 rotate_left
 ·have e : u.pos ≠ zg w.G own := fun e => by
   simp only [e, Bool.and_eq_false_iff, beq_eq_false_iff_ne] at c2
   rcases c2 with c2 | c2 | c2
   ·exact c2 rfl
   ·exact c2 rfl
   ·cases c2
  rw [if_pos e] at h
  have h0 := h n N (Nat.le_succ n) hd hK
  rw [hSe] at h0
  exact ret h0
 have e : ¬ u.pos ≠ zg w.G own := fun e => e (by
  simp only [Bool.and_eq_true, beq_iff_eq] at c2
  exact Prod.ext c2.1 c2.2.1)
 rw [if_neg e] at h
 dsimp only at h
 refine ADraw.of_sched zb (by rfl) (by rfl) zmp (by rfl) ?_
 refine za (o := st'.obj mb) _ hmb ?_
 refine za (o := st'.obj mb) _ hmb ?_
 refine za (o := st'.obj s) _ hs ?_
 refine ⟨?_, Tv⟩
 subst hSe
 show ∃ g x, Meets _ _ _ _ g x /\ ACalls _ g [x, _, _, _, _, int u.goal] _ _
 rw [hgo]
 refine hG.waysX hd hK hnM (Hz u.kind) hk goal hgl _ (fun b N2 hd2 hK2 hb2 => ⟨(by repeat (first | exact Tv | refine ⟨rfl, ?_⟩ | refine ⟨optR (optR (optR (za _ (zd _ _ _) rfl))), ?_⟩)), ?_⟩)
 have hmb2 : (X.un N2).obj b = some (.cells (il w.G.T.length (qb w.G (zf w.G w.B (zm u.kind) (zx u.kind)) (zm u.kind) (yl w.G (zf w.G w.B (zm u.kind) (zx u.kind)) (zm u.kind) goal)))) := ze hb2
 have h0 := h (n + 1) N2 (Nat.le_refl _) hd2 hK2
 generalize X.un N2 = S2 at *
 have hway := mf w.G (zf w.G w.B (zm u.kind) (zx u.kind)) (zm u.kind) (yl w.G (zf w.G w.B (zm u.kind) (zx u.kind)) (zm u.kind) goal) own
 have hhd := jh (f := qb w.G (zf w.G w.B (zm u.kind) (zx u.kind)) (zm u.kind) (yl w.G (zf w.G w.B (zm u.kind) (zx u.kind)) (zm u.kind) goal)) ho
 refine ⟨own, rfl, ho, ?_⟩
 refine za (o := S2.obj b) _ hmb2 ?_
 refine za _ hhd ?_
 generalize qb w.G (zf w.G w.B (zm u.kind) (zx u.kind)) (zm u.kind) (yl w.G (zf w.G w.B (zm u.kind) (zx u.kind)) (zm u.kind) goal) own = W at *
 refine ⟨⟨Tv, ?_⟩, Tv⟩
 refine bcd (fun c3 => ?_) (fun c3 => ?_)
 ·rw [if_pos c3] at h0
  exact ret h0
 rw [if_neg c3] at h0
 obtain ⟨j, hj, rfl⟩ : ∃ j : Nat, j < 8 /\ W = (j : Int) := by
  rcases hway with h1 | ⟨j, h1, h2, _⟩
  ·omega
  ·exact ⟨j, h1, h2⟩
 rw [Int.toNat_natCast] at h0
 refine L9 w.G hm.hg own ho _ _ ?_
 refine ⟨j, rfl, hj, ?_⟩
 refine za _ (Pd hj) ?_
 exact ret h0
theorem b7 {gv : AV} {F G N : Store} {mb s p : Nat} {w : Wld} {v : AV} {L : List Ent} {o0 o1 o2 : AV} (hW : MoverG gv F G mb s p w v L o0 o1 o2) (hd : zv (F.un (svS G s w v o0 o1 o2 p)) N) (hm : MayF w) (hn : ∀ u ∈ w.U, u.pos.ok) {i : Nat} (hi : i < w.U.length) (u : Unt) (hid : w.U[i].id = u.id) (hp : u.pos.ok) (R : AV -> Store -> Prop)
  (h : ∀ F' G' L', MoverG gv F' G' mb s p (z8 w u) v L' o0 o1 o2 -> zv (F'.un (svS G' s (z8 w u) v o0 o1 o2 p)) N -> R (.tup []) ((F'.un (svS G' s (z8 w u) v o0 o1 o2 p)).un N)) : ACalls Tryz.prog 150 [ptr s, .agg (zp u)] ((F.un (svS G s w v o0 o1 o2 p)).un N) R := by
 refine ACalls.frame hd (Ox hW hm hn hi u hid hp (fun r S => ∃ F' G' L', MoverG gv F' G' mb s p (z8 w u) v L' o0 o1 o2 /\ S = F'.un (svS G' s (z8 w u) v o0 o1 o2 p) /\ r = .tup []) (fun F' G' L' h => ⟨F', G', L', h, rfl, rfl⟩)) ?_
 rintro r a' ⟨F', G', L', h1, rfl, rfl⟩ hd2
 exact h F' G' L' h1 hd2
theorem Pv {gv : AV} {F G N : Store} {mb s p : Nat} {w : Wld} {v : AV} {L : List Ent} {o0 o1 o2 : AV} (hW : MoverG gv F G mb s p w v L o0 o1 o2) (hd : zv (F.un (svS G s w v o0 o1 o2 p)) N) (hm : MayF w) (hn : ∀ u ∈ w.U, u.pos.ok) {i : Nat} (hi : i < w.U.length) (u : Unt) (hid : w.U[i].id = u.id) (hp : u.pos.ok) (z : Int) (R : AV -> Store -> Prop)
  (h : ∀ F' G' L', MoverG gv F' G' mb s p (z8 w (qu z u)) v L' o0 o1 o2 -> zv (F'.un (svS G' s (z8 w (qu z u)) v o0 o1 o2 p)) N -> R (.tup []) ((F'.un (svS G' s (z8 w (qu z u)) v o0 o1 o2 p)).un N)) : ACalls Tryz.prog 146 [ptr mb, .agg (zp u), int z] ((F.un (svS G s w v o0 o1 o2 p)).un N) R := by
 refine ACalls.frame hd (zuu hW hm hn hi u hid hp z (fun r S => ∃ F' G' L', MoverG gv F' G' mb s p (z8 w (qu z u)) v L' o0 o1 o2 /\ S = F'.un (svS G' s (z8 w (qu z u)) v o0 o1 o2 p) /\ r = .tup []) (fun F' G' L' h => ⟨F', G', L', h, rfl, rfl⟩)) ?_
 rintro r a' ⟨F', G', L', h1, rfl, rfl⟩ hd2
 exact h F' G' L' h1 hd2
theorem od {gv : AV} {F G N : Store} {mb s p : Nat} {w : Wld} {v : AV} {L : List Ent} {o0 o1 o2 : AV} (hW : MoverG gv F G mb s p w v L o0 o1 o2) (hd : zv (F.un (svS G s w v o0 o1 o2 p)) N) (hm : MayF w) (hn : ∀ u ∈ w.U, u.pos.ok) {i : Nat} (hi : i < w.U.length) (d : Vc) (hdv : d.ok) (R : AV -> Store -> Prop)
  (h : ∀ F' G' L' q0 q1 q2, MoverG gv F' G' mb s p (jz w w.U[i] d) v L' q0 q1 q2 -> zv (F'.un (svS G' s (jz w w.U[i] d) v q0 q1 q2 p)) N -> R (int (wk w w.U[i] d)) ((F'.un (svS G' s (jz w w.U[i] d) v q0 q1 q2 p)).un N)) : ACalls Tryz.prog 143 [ptr mb, .agg (zp w.U[i]), .agg (zy d)] ((F.un (svS G s w v o0 o1 o2 p)).un N) R := by
 refine ACalls.frame hd (Sm hW hm hn hi d hdv (fun r S => ∃ F' G' L' q0 q1 q2, MoverG gv F' G' mb s p (jz w w.U[i] d) v L' q0 q1 q2 /\ S = F'.un (svS G' s (jz w w.U[i] d) v q0 q1 q2 p) /\ r = int (wk w w.U[i] d)) (fun F' G' L' q0 q1 q2 h => ⟨F', G', L', q0, q1, q2, h, rfl, rfl⟩)) ?_
 rintro r a' ⟨F', G', L', q0, q1, q2, h1, rfl, rfl⟩ hd2
 exact h F' G' L' q0 q1 q2 h1 hd2
theorem zsf {gv : AV} {F G N : Store} {mb s p : Nat} {w : Wld} {v : AV} {L : List Ent} {o0 o1 o2 : AV} (hW : MoverG gv F G mb s p w v L o0 o1 o2) (hd : zv (F.un (svS G s w v o0 o1 o2 p)) N) (hm : MayF w) (hn : ∀ u ∈ w.U, u.pos.ok) (hmap : ∀ u ∈ w.U, u.inn = 0 -> yr u.pos) {i : Nat} (hi : i < w.U.length) (h0 : w.U[i].inn = 0) (R : AV -> Store -> Prop)
  (h : ∀ F' G' L' q0 q1 q2, MoverG gv F' G' mb s p (w9 w w.U[i]) v L' q0 q1 q2 -> zv (F'.un (svS G' s (w9 w w.U[i]) v q0 q1 q2 p)) N -> R (.tup []) ((F'.un (svS G' s (w9 w w.U[i]) v q0 q1 q2 p)).un N)) : ACalls Tryz.prog 76 [ptr mb, .agg (zp w.U[i])] ((F.un (svS G s w v o0 o1 o2 p)).un N) R := by
 refine ACalls.frame hd (zsd hW hm hn hmap hi h0 (fun r S => ∃ F' G' L' q0 q1 q2, MoverG gv F' G' mb s p (w9 w w.U[i]) v L' q0 q1 q2 /\ S = F'.un (svS G' s (w9 w w.U[i]) v q0 q1 q2 p) /\ r = .tup []) (fun F' G' L' q0 q1 q2 h => ⟨F', G', L', q0, q1, q2, h, rfl, rfl⟩)) ?_
 rintro r a' ⟨F', G', L', q0, q1, q2, h1, rfl, rfl⟩ hd2
 exact h F' G' L' q0 q1 q2 h1 hd2
set_option maxHeartbeats 4000000 in
set_option maxRecDepth 20000 in
theorem zto {gt : TypeId} {gx : Value} {K : Nat -> Store -> Prop} {M n : Nat} {w : Wld} (hG : GuideK gt gx K M w) (hnM : n < M) {F G N : Store} {mb s p : Nat} {v : AV} {L : List Ent} {o0 o1 o2 : AV} (hW : MoverG (gvOf gt gx) F G mb s p w v L o0 o1 o2) (hd : zv (F.un (svS G s w v o0 o1 o2 p)) N) (hK : K n N) (hmay : yg w) (hn : ∀ u ∈ w.U, u.pos.ok) {i : Nat} (hi : i < w.U.length) (h0 : w.U[i].inn = 0) (hgo : w.U[i].goal ≠ -1) (R : AV -> Store -> Prop)
  (h : ∀ F' G' L' q0 q1 q2 n2 N2, n2 <= n + 1 -> MoverG (gvOf gt gx) F' G' mb s p (k7 w w.U[i]) v L' q0 q1 q2 -> zv (F'.un (svS G' s (k7 w w.U[i]) v q0 q1 q2 p)) N2 -> K n2 N2 -> R (.tup []) ((F'.un (svS G' s (k7 w w.U[i]) v q0 q1 q2 p)).un N2)) :
  ACalls Tryz.prog 77 [ptr mb, .agg (zp w.U[i])] ((F.un (svS G s w v o0 o1 o2 p)).un N) R := by
 have hm := Dw hmay
 have hut := Mw hmay hi
 have hon := Ol hmay hi h0
 have hown := Oj hmay hi h0
 have hmp := Gd hmay (List.getElem_mem hi) h0
 obtain ⟨goal, hgq, hgl⟩ : ∃ k : Nat, w.U[i].goal = k /\ k < w.G.T.length := by
  rcases Nb hm.hg hut.2.1.1 with h1 | h1
  ·exact absurd h1 hgo
  ·exact h1
 have hnx := Nb hm.hg hut.2.1.2.1
 have hstk := hut.2.1.2.2
 have hnt := Oo (w := w) hm.hg (u := w.U[i]) hown
 have hgoes : k7 w w.U[i] = if w.U[i].pos = zg w.G goal then z8 w (qu 2 w.U[i]) else if ko w w.U[i] (zq w.G w.U[i].pos) then (if qz w w.U[i] (zq w.G w.U[i].pos) < 0 then z8 w (qu 3 w.U[i]) else xk w { w.U[i] with next := qz w w.U[i] (zq w.G w.U[i].pos) }) else xk w w.U[i] := by
  have e : w.U[i].goal.toNat = goal := by rw [hgq, Int.toNat_natCast]
  unfold k7
  rw [e]
 have hlook1 : ko w w.U[i] (zq w.G w.U[i].pos) = false -> w.U[i].next ≠ -1 := fun hh e => by
  unfold ko at hh
  rw [decide_eq_true e] at hh
  simp at hh
 obtain ⟨own, hownE⟩ : ∃ own, zq w.G w.U[i].pos = own := ⟨_, rfl⟩
 rw [hownE] at hown hnt hgoes hlook1
 refine ACalls.of_awp (c := cfg 84) zb Tryz.func77 (by rfl) (by rfl) (by rfl) (by rfl) ?_
 refine AWp.seq (AWp.of_vc zb ?_)
 refine AWp.seq (AWp.of_vc zb ?_)
 refine za (o := ((F.un (svS G s w v o0 o1 o2 p)).un N).obj mb) _ (qj hd hW.m) ?_
 refine za (o := ((F.un (svS G s w v o0 o1 o2 p)).un N).obj s) _ (qj hd hW.s) ?_
 refine AWp.seq (AWp.of_vc zb ?_)
 refine ADraw.of_sched zb (by rfl) (by rfl) zk3 (by rfl) ?_
 refine ⟨Kp w.G hm.hg goal hgl w.U[i].goal hgq _ _ ⟨(by repeat (first | exact Tv | refine ⟨rfl, ?_⟩ | refine ⟨optR (optR (optR (za _ (zd _ _ _) rfl))), ?_⟩)), ?_⟩, Tv⟩
 refine zh (fun c1 => ?_) (fun c1 => ?_)
 ·have e : w.U[i].pos = zg w.G goal := by
   simp only [Bool.and_eq_true, beq_iff_eq] at c1
   exact Prod.ext c1.1 c1.2.1
  rw [if_pos e] at hgoes
  rw [hgoes] at h
  refine Pv hW hd hm hn hi w.U[i] rfl (v7 hmp) 2 _ (fun F3 G3 L3 hW3 hd3 => ?_)
  exact ret (h F3 G3 L3 o0 o1 o2 n N (Nat.le_succ n) hW3 hd3 hK)
 have e : ¬ w.U[i].pos = zg w.G goal := fun e => by
  simp only [e, Bool.and_eq_false_iff, beq_eq_false_iff_ne] at c1
  rcases c1 with c1 | c1 | c1
  ·exact c1 rfl
  ·exact c1 rfl
  ·cases c1
 rw [if_neg e] at hgoes
 refine AWp.meet (σ := Nat × Nat × Store) ⟨fun q => [(0, .av (ptr mb)), (3, .bx 3 0), (4, .bx 4 0)], fun q => [(3, zp { w.U[i] with next := (q.1 : Int) }), (4, zr w.G)], fun q st' => st' = (F.un (svS G s w v o0 o1 o2 p)).un q.2.2 /\ q.1 < w.G.T.length /\ k7 w w.U[i] = xk w { w.U[i] with next := (q.1 : Int) } /\ q.2.1 <= n + 1 /\ zv (F.un (svS G s w v o0 o1 o2 p)) q.2.2 /\ K q.2.1 q.2.2⟩ zb ?_ ?_
 ·refine ni w.G hm.hg w.U[i].pos hon _ _ ?_
  rw [hownE]
  refine zrj hG hd hK hW.m hW.s hm w.U[i] hnx own hown _ (fun N2 hd2 hK2 => ?_)
  refine zh (fun c2 => ?_) (fun c2 => ?_)
  rotate_left
  ·rw [if_neg (by rw [c2]; decide)] at hgoes
   obtain ⟨t, ht, htl⟩ : ∃ k : Nat, w.U[i].next = k /\ k < w.G.T.length := by
    rcases hnx with h1 | h1
    ·exact absurd h1 (hlook1 c2)
    ·exact h1
   have e2 : { w.U[i] with next := (t : Int) } = w.U[i] := by rw [<- ht]
   refine ⟨(t, n, N2), ⟨rfl, htl, by dsimp only; rw [e2]; exact hgoes, Nat.le_succ n, hd2, hK2⟩, ⟨Tq, Tq, Tq, Tv⟩, ⟨?_, rfl, Tv⟩⟩
   dsimp only
   rw [e2]
   rfl
  rw [if_pos c2] at hgoes
  refine zql hG hnM hd2 hK2 hW.m hW.s hm w.U[i] goal hgq hgl own hown _ (fun n3 N3 hn3 hd3 hK3 => ?_)
  generalize qz w w.U[i] own = nx at *
  refine bcd (fun c3 => ?_) (fun c3 => ?_)
  ·rw [if_pos c3] at hgoes
   rw [hgoes] at h
   refine Pv hW hd3 hm hn hi { w.U[i] with next := nx } rfl (v7 hmp) 3 _ (fun F3 G3 L3 hW3 hd4 => ?_)
   exact ret (h F3 G3 L3 o0 o1 o2 n3 N3 hn3 hW3 hd4 hK3)
  rw [if_neg c3] at hgoes
  obtain ⟨t, rfl, htl⟩ : ∃ k : Nat, nx = k /\ k < w.G.T.length := by
   rcases Nb hm.hg hnt with h1 | h1
   ·omega
   ·exact h1
  exact ⟨(t, n3, N3), ⟨rfl, htl, hgoes, hn3, hd3, hK3⟩, ⟨Tq, Tq, Tq, Tv⟩, ⟨rfl, rfl, Tv⟩⟩
 clear hd hK
 rintro ⟨t, n2, N2⟩ st' ⟨rfl, htl, hgoes, hn2, hd, hK⟩
 dsimp only at htl hgoes hn2 hd hK ⊢
 rw [hgoes] at h
 have hid : ({ w.U[i] with next := (t : Int), stuck := 0 } : Unt).id = w.U[i].id := rfl
 have hmay1 : yg (z8 w { w.U[i] with next := (t : Int), stuck := 0 }) := Kr hmay hi h0 rfl (Iy hut hgo (Na hm.hg htl) (by omega))
 obtain ⟨hi1, he1⟩ := Kk hm.hr hi hid
 have hn1 : ∀ x ∈ (z8 w { w.U[i] with next := (t : Int), stuck := 0 }).U, x.pos.ok := fun x hx => by
  obtain ⟨j, hj, rfl⟩ := List.getElem_of_mem hx
  rw [Oc] at hj
  by_cases hji : j = i
  ·subst hji
   rw [he1]
   exact v7 hmp
  ·rw [Wn hm.hr hi hid hj hji]
   exact hn _ (List.getElem_mem hj)
 have hks := Fw w.U[i].kind
 have hcm := gg hm.hg htl
 have hway := Iw hmp hcm
 unfold xk at h
 dsimp only at h
 rw [Int.toNat_natCast] at h
 have hpp : ∀ x : Unt, x.id = w.U[i].id -> z8 (z8 w { w.U[i] with next := (t : Int), stuck := 0 }) x = z8 w x := fun x hx => Wm w hx.symm
 refine AWp.of_vc zb ?_
 refine ADraw.of_sched zb (by rfl) (by rfl) zk6 (by rfl) ?_
 refine za (o := ((F.un (svS G s w v o0 o1 o2 p)).un N2).obj mb) _ (qj hd hW.m) ?_
 refine ⟨b7 hW hd hm hn hi { w.U[i] with next := (t : Int), stuck := 0 } rfl (v7 hmp) _ (fun F1 G1 L1 hW1 hd1 => ⟨Tv, ?_⟩), Tv⟩
 generalize hw1 : z8 w { w.U[i] with next := (t : Int), stuck := 0 } = w1 at *
 have hm1 := Dw hmay1
 have hG1 : w1.G = w.G := by rw [<- hw1]; rfl
 have htry := od hW1 hd1 hm1 hn1 hi1
 rw [he1] at htry
 refine ADraw.of_sched zb (by rfl) (by rfl) zk5 (by rfl) ?_
 refine ⟨Kp w.G hm.hg t htl (t : Nat) rfl _ _ ⟨(by repeat (first | exact Tv | refine ⟨rfl, ?_⟩ | refine ⟨optR (optR (optR (za _ (zd _ _ _) rfl))), ?_⟩)), ?_⟩, Tv⟩
 refine ⟨xx _ _ _ ⟨(by repeat (first | exact Tv | refine ⟨rfl, ?_⟩ | refine ⟨optR (optR (optR (za _ (zd _ _ _) rfl))), ?_⟩)), ?_⟩, Tv⟩
 refine ⟨og w.U[i].pos (zg w.G t) (ym w.U[i].kind) hmp hcm (by omega) _ _ ⟨(by repeat (first | exact Tv | refine ⟨rfl, ?_⟩ | refine ⟨optR (optR (optR (za _ (zd _ _ _) rfl))), ?_⟩)), ?_⟩, Tv⟩
 refine ⟨htry (jo w.U[i].pos (zg w.G t) (ym w.U[i].kind)) (R6 hway) _ (fun F2 G2 L2 a0 a1 a2 hW2 hd2 => ⟨(by repeat (first | exact Tv | refine ⟨rfl, ?_⟩ | refine ⟨optR (optR (optR (za _ (zd _ _ _) rfl))), ?_⟩)), ?_⟩), Tv⟩
 refine bcd (fun c4 => ?_) (fun c4 => ?_)
 ·rw [if_pos c4] at h
  exact ret (h F2 G2 L2 a0 a1 a2 n2 N2 hn2 hW2 hd2 hK)
 rw [if_neg c4] at h
 rw [nz c4] at hW2 hd2 ⊢
 refine zc (v := w.U[i].stuck + 1) (by omega) ?_
 refine yj (fun c5 => ?_) (fun c5 => ?_)
 ·rw [if_pos c5] at h
  refine Pv hW2 hd2 hm1 hn1 hi1 { w.U[i] with next := -1, stuck := w.U[i].stuck + 1 } (by rw [he1]) (v7 hmp) 4 _ (fun F3 G3 L3 hW3 hd3 => ?_)
  have e3 := hpp (qu 4 { w.U[i] with next := -1, stuck := w.U[i].stuck + 1 }) rfl
  rw [e3] at hW3 hd3 ⊢
  exact ret (h F3 G3 L3 a0 a1 a2 n2 N2 hn2 hW3 hd3 hK)
 rw [if_neg c5] at h
 refine ADraw.of_sched zb (by rfl) (by rfl) zk4 (by rfl) ?_
 refine za (o := ((F2.un (svS G2 s w1 v a0 a1 a2 p)).un N2).obj mb) _ (qj hd2 hW2.m) ?_
 refine ⟨b7 hW2 hd2 hm1 hn1 hi1 { w.U[i] with next := -1, stuck := w.U[i].stuck + 1 } (by rw [he1]) (v7 hmp) _ (fun F3 G3 L3 hW3 hd3 => ⟨Tv, ?_⟩), Tv⟩
 have e3 := hpp { w.U[i] with next := -1, stuck := w.U[i].stuck + 1 } rfl
 rw [e3] at hW3 hd3 ⊢
 exact ret (h F3 G3 L3 a0 a1 a2 n2 N2 hn2 hW3 hd3 hK)
theorem nh {gt : TypeId} {gx : Value} {K : Nat -> Store -> Prop} {M n : Nat} {w : Wld} (hG : GuideK gt gx K M w) (hnM : n < M) {F G N : Store} {mb s p : Nat} {v : AV} {L : List Ent} {o0 o1 o2 : AV} (hW : MoverG (gvOf gt gx) F G mb s p w v L o0 o1 o2) (hd : zv (F.un (svS G s w v o0 o1 o2 p)) N) (hK : K n N) (hmay : yg w) (hn : ∀ u ∈ w.U, u.pos.ok) {i : Nat} (hi : i < w.U.length) (h0 : w.U[i].inn = 0) (R : AV -> Store -> Prop)
  (h : ∀ F' G' L' q0 q1 q2 n2 N2, n2 <= n + 1 -> MoverG (gvOf gt gx) F' G' mb s p (qf w w.U[i]) v L' q0 q1 q2 -> zv (F'.un (svS G' s (qf w w.U[i]) v q0 q1 q2 p)) N2 -> K n2 N2 -> R (.tup []) ((F'.un (svS G' s (qf w w.U[i]) v q0 q1 q2 p)).un N2)) :
  ACalls Tryz.prog 41 [ptr mb, .agg (zp w.U[i])] ((F.un (svS G s w v o0 o1 o2 p)).un N) R := by
 unfold qf at h
 refine ACalls.of_body (c := cfg 13) zb Tryz.func41 (by rfl) (by rfl) (by rfl) (by rfl) ?_
 refine yj (fun c1 => ?_) (fun c1 => ?_)
 ·rw [if_pos c1] at h
  exact zsf hW hd (Dw hmay) hn (fun u hu h1 => Gd hmay hu h1) hi h0 _ (fun F3 G3 L3 a0 a1 a2 hW3 hd3 => ret (h F3 G3 L3 a0 a1 a2 n N (Nat.le_succ n) hW3 hd3 hK))
 ·rw [if_neg c1] at h
  exact zto hG hnM hW hd hK hmay hn hi h0 c1 _ (fun F3 G3 L3 a0 a1 a2 n2 N2 hn2 hW3 hd3 hK3 => ret (h F3 G3 L3 a0 a1 a2 n2 N2 hn2 hW3 hd3 hK3))
theorem g9 (u : Bld) : (zz u).length = 6 := rfl
theorem zws (b : Bld) : ∀ y ∈ zz b, ∃ x, y = AV.s x /\ qg x = true := by
 intro y hy
 simp [zz] at hy
 rcases hy with rfl | rfl | rfl | rfl | rfl | rfl <;> exact ⟨_, rfl, rfl⟩
theorem Sj (c : UInt8) : (u8C c).length = 1 := rfl
theorem nk (c : UInt8) : ∀ y ∈ u8C c, ∃ x, y = AV.s x /\ qg x = true := by
 intro y hy
 simp [u8C] at hy
 exact ⟨_, hy, rfl⟩
theorem P0 (st : Store) : zv Store.empty st := fun b hb => (hb.elim (fun h => h rfl) (fun h => h rfl) : False).elim
theorem zv1 (l : List UInt8) (hl : l.length <= 1000000000) (st : Store) (R : AV -> Store -> Prop) (h : ∀ v N, RowsQ 1 u8C N v l -> zv N st -> R v (N.un st)) : ACalls Tryz.prog 157 [Db l] st R := by
 refine ACalls.of_body (c := cfg 8) zb Tryz.func157 (by rfl) (by rfl) (by rfl) (by rfl) ?_
 intro b hb
 cases b with
 | true =>
  have : l = [] := by
   have := congrArg List.length (hb rfl)
   rw [zl] at this
   exact List.eq_nil_of_length_eq_zero this
  subst this
  have := h (.s (.slice none 0 0)) Store.empty (.inl (.inl ⟨rfl, rfl⟩)) (P0 st)
  rw [C8] at this
  exact ret this
 | false =>
  refine ⟨by decide, ?_⟩
  exact Rm (ie := ti5) rfl Sj (by decide) hl (fun v N hv hd => ret (h v N hv hd))
theorem zv2 (l : List Bld) (hl : l.length <= 1000000000) (st : Store) (R : AV -> Store -> Prop) (h : ∀ v N, RowsQ 6 zz N v l -> zv N st -> R v (N.un st)) : ACalls Tryz.prog 134 [lst 6 zz l] st R := by
 refine ACalls.of_body (c := cfg 8) zb Tryz.func134 (by rfl) (by rfl) (by rfl) (by rfl) ?_
 intro b hb
 cases b with
 | true =>
  have : l = [] := by
   have := congrArg List.length (hb rfl)
   rw [zl] at this
   exact List.eq_nil_of_length_eq_zero this
  subst this
  have := h (.s (.slice none 0 0)) Store.empty (.inl (.inl ⟨rfl, rfl⟩)) (P0 st)
  rw [C8] at this
  exact ret this
 | false =>
  refine ⟨by decide, ?_⟩
  exact Rm (ie := ti151) rfl g9 (by decide) hl (fun v N hv hd => ret (h v N hv hd))
theorem zv0 (l : List Unt) (hl : l.length <= 1000000000) (st : Store) (R : AV -> Store -> Prop) (h : ∀ v N, RowsQ 10 zp N v l -> zv N st -> R v (N.un st)) : ACalls Tryz.prog 135 [lst 10 zp l] st R := by
 refine ACalls.of_body (c := cfg 8) zb Tryz.func135 (by rfl) (by rfl) (by rfl) (by rfl) ?_
 intro b hb
 cases b with
 | true =>
  have : l = [] := by
   have := congrArg List.length (hb rfl)
   rw [zl] at this
   exact List.eq_nil_of_length_eq_zero this
  subst this
  have := h (.s (.slice none 0 0)) Store.empty (.inl (.inl ⟨rfl, rfl⟩)) (P0 st)
  rw [C8] at this
  exact ret this
 | false =>
  refine ⟨by decide, ?_⟩
  exact Rm (ie := ti38) rfl Ce (by decide) hl (fun v N hv hd => ret (h v N hv hd))
theorem zs4 (g : Gnd) (hg : g.T.length <= 1000000000) (st : Store) (R : AV -> Store -> Prop) (h : ∀ v N, RowsQ 1 u8C N v g.T -> zv N st -> R (.agg [int g.W, int g.H, v]) (N.un st)) : ACalls Tryz.prog 82 [.agg (zr g)] st R := by
 refine ACalls.of_body (c := cfg 8) zb Tryz.func82 (by rfl) (by rfl) (by rfl) (by rfl) ?_
 refine zv1 g.T hg _ _ (fun v N hv hd => ?_)
 obtain ⟨oa, cap, hv2, _⟩ := hv.form
 subst hv2
 exact ret (h _ N hv hd)
def Rt (w : Wld) (vT vB vU : AV) : List AV := [int w.tick, int w.players, int w.next, int w.G.W, int w.G.H, vT, vB, vU]
/-- A world in memory of its own, part by part. -/
structure OwnQ (S : Store) (w : Wld) (vT vB vU : AV) (NT NB NU : Store) : Prop where
 e : S = NU.un (NB.un NT)
 rT : RowsQ 1 u8C NT vT w.G.T
 rB : RowsQ 6 zz NB vB w.B
 rU : RowsQ 10 zp NU vU w.U
 dB : zv NB NT
 dU : zv NU (NB.un NT)
theorem zpu (w : Wld) (hT : w.G.T.length <= 1000000000) (hB : w.B.length <= 1000000000) (hU : w.U.length <= 1000000000) (R : AV -> Store -> Prop)
  (h : ∀ S vT vB vU NT NB NU, OwnQ S w vT vB vU NT NB NU -> R (.agg (Rt w vT vB vU)) S) : ACalls Tryz.prog 74 [.agg (yd w)] Store.empty R := by
 refine ACalls.of_body (c := cfg 16) zb Tryz.func74 (by rfl) (by rfl) (by rfl) (by rfl) ?_
 refine ADraw.of_sched zb (by rfl) (by rfl) zla (by rfl) ?_
 refine ⟨zs4 w.G hT _ _ (fun vT NT rT _ => ⟨(by repeat (first | exact Tv | refine ⟨rfl, ?_⟩ | refine ⟨optR (optR (optR (za _ (zd _ _ _) rfl))), ?_⟩)), ?_⟩), Tv⟩
 rw [Fj]
 refine ⟨zv2 w.B hB _ _ (fun vB NB rB dB => ⟨(by repeat (first | exact Tv | refine ⟨rfl, ?_⟩ | refine ⟨optR (optR (optR (za _ (zd _ _ _) rfl))), ?_⟩)), ?_⟩), Tv⟩
 refine ⟨zv0 w.U hU _ _ (fun vU NU rU dU => ⟨(by repeat (first | exact Tv | refine ⟨rfl, ?_⟩ | refine ⟨optR (optR (optR (za _ (zd _ _ _) rfl))), ?_⟩)), ?_⟩), Tv⟩
 have ho : OwnQ (NU.un (NB.un NT)) w vT vB vU NT NB NU := ⟨rfl, rT, rB, rU, dB, dU⟩
 obtain ⟨_, _, e1, _⟩ := rT.form
 obtain ⟨_, _, e2, _⟩ := rB.form
 obtain ⟨_, _, e3, _⟩ := rU.form
 subst e1 e2 e3
 refine ⟨⟨(by repeat (first | exact Tv | refine ⟨rfl, ?_⟩ | refine ⟨optR (optR (optR (za _ (zd _ _ _) rfl))), ?_⟩)), ?_⟩, Tv⟩
 refine ⟨⟨(by repeat (first | exact Tv | refine ⟨rfl, ?_⟩ | refine ⟨optR (optR (optR (za _ (zd _ _ _) rfl))), ?_⟩)), ?_⟩, Tv⟩
 refine ⟨⟨(by repeat (first | exact Tv | refine ⟨rfl, ?_⟩ | refine ⟨optR (optR (optR (za _ (zd _ _ _) rfl))), ?_⟩)), ?_⟩, Tv⟩
 exact ret (h _ _ _ _ _ _ _ ho)
theorem zpv {S NT NB NU : Store} {w : Wld} {vT vB vU : AV} (h : OwnQ S w vT vB vU NT NB NU) : RowsQ 1 u8C S vT w.G.T /\ RowsQ 6 zz S vB w.B /\ RowsQ 10 zp S vU w.U := by
 have h1 := h.rT
 have h2 := h.rB.unL h.dB
 rw [h.e]
 exact ⟨(h1.un (a := NB)).un, h2.un, h.rU.unL h.dU⟩
theorem Hv {a b : Store} {i : Nat} (h : (a.un b).obj i = none) : a.obj i = none /\ b.obj i = none := by
 unfold Store.un at h
 dsimp only at h
 cases hb : b.obj i with
 | none => rw [hb] at h; exact ⟨h, rfl⟩
 | some y => rw [hb] at h; cases h
/-- A copy whose units alone may be written. -/
theorem zpt (w : Wld) (hT : w.G.T.length <= 1000000000) (hB : w.B.length <= 1000000000) (hU : w.U.length <= 1000000000) (R : AV -> Store -> Prop)
  (h : ∀ v N, RowsQ 10 zp N v w.U -> R (.agg (j6 w v)) N) : ACalls Tryz.prog 74 [.agg (yd w)] Store.empty R := by
 refine (zpu w hT hB hU (fun r S => ∃ vT vB vU NT NB NU, OwnQ S w vT vB vU NT NB NU /\ r = .agg (Rt w vT vB vU)) fun S vT vB vU NT NB NU ho => ⟨vT, vB, vU, NT, NB, NU, ho, rfl⟩).frozenTo ?_
 rintro r S ⟨vT, vB, vU, NT, NB, NU, ho, rfl⟩
 have hk : ∃ N2 : Store, RowsQ 10 zp N2 vU w.U /\ (∀ b x, N2.obj b = some x -> NU.obj b = some x) /\ (∀ b x, N2.tok b ≠ some x) := by
  refine ⟨⟨NU.obj, fun _ => none⟩, ho.rU.sub fun _ _ _ _ => rfl, fun b x hx => hx, fun b x => by simp⟩
 obtain ⟨N2, hN, hsub, htok⟩ := hk
 refine ⟨.agg (j6 w vU), N2, h vU N2 hN, fun b x hx => ?_, htok, fun Oth M W v sto hx => ?_⟩
 ·rw [ho.e]
  exact qj ho.dU (hsub b x hx)
 ·obtain ⟨rT, rB, rU⟩ := zpv ho
  cases hx with
  | agg _ c hl hc =>
   have mono1 : ∀ {x : AV} {v : Value}, VRel W (fun b o => M b o \/ Oth b o) x v -> VRel W (fun b o => (M b o \/ Oth b o) /\ (S.obj b = none \/ N2.obj b ≠ none)) x v := fun h => h.mono fun _ _ h => h.1
   have mono2 : ∀ {x : AV} {v : Value} {Z : Store}, (∀ b, N2.obj b ≠ none -> Z.obj b = none) -> (∀ b, S.obj b = none -> Z.obj b = none) -> VRel W (fun b o => (M b o \/ Oth b o) /\ Z.obj b = none) x v -> VRel W (fun b o => (M b o \/ Oth b o) /\ (S.obj b = none \/ N2.obj b ≠ none)) x v := fun hz1 hz2 h => h.mono fun b _ h => ⟨h.1, h.2.elim (hz2 b) (hz1 b)⟩
   have hS : ∀ b, S.obj b = none -> NU.obj b = none /\ NB.obj b = none /\ NT.obj b = none := fun b hb => by
    rw [ho.e] at hb
    obtain ⟨h1, h2⟩ := Hv hb
    exact ⟨h1, (Hv h2).1, (Hv h2).2⟩
   have hN2 : ∀ b, N2.obj b ≠ none -> NB.obj b = none /\ NT.obj b = none := fun b hb => by
    cases hx : N2.obj b with
    | none => exact absurd hx hb
    | some y =>
     have h1 := Bq (hsub b y hx)
     have h2 := Bk (ho.dU b h1)
     exact ⟨(Hv h2.1).1, (Hv h2.1).2⟩
   have sNB : StoreOK NB Oth M W := sto.weaken ⟨fun b x hx => by rw [ho.e]; exact ze (qj ho.dB hx), fun b x hx => by rw [ho.e]; exact Cf (I2 ho.dB hx)⟩
   have sNT : StoreOK NT Oth M W := sto.weaken ⟨fun b x hx => by rw [ho.e]; exact ze (ze hx), fun b x hx => by rw [ho.e]; exact Cf (Cf hx)⟩
   refine .agg _ c hl fun i x y hx hy => ?_
   match i with
   | 0 => simp only [j6, List.getElem?_cons_zero, Option.some.injEq] at hx; subst hx; exact mono1 (hc 0 _ y rfl hy)
   | 1 => simp only [j6, List.getElem?_cons_succ, List.getElem?_cons_zero, Option.some.injEq] at hx; subst hx; exact mono1 (hc 1 _ y rfl hy)
   | 2 => simp only [j6, List.getElem?_cons_succ, List.getElem?_cons_zero, Option.some.injEq] at hx; subst hx; exact mono1 (hc 2 _ y rfl hy)
   | 3 => simp only [j6, List.getElem?_cons_succ, List.getElem?_cons_zero, Option.some.injEq] at hx; subst hx; exact mono1 (hc 3 _ y rfl hy)
   | 4 => simp only [j6, List.getElem?_cons_succ, List.getElem?_cons_zero, Option.some.injEq] at hx; subst hx; exact mono1 (hc 4 _ y rfl hy)
   | 5 => simp only [j6, List.getElem?_cons_succ, List.getElem?_cons_zero, Option.some.injEq] at hx; subst hx; exact mono2 (fun b hb => (hN2 b hb).2) (fun b hb => (hS b hb).2.2) (ho.rT.borrow Sj nk sNT (hc 5 _ y rfl hy))
   | 6 => simp only [j6, List.getElem?_cons_succ, List.getElem?_cons_zero, Option.some.injEq] at hx; subst hx; exact mono2 (fun b hb => (hN2 b hb).1) (fun b hb => (hS b hb).2.1) (ho.rB.borrow g9 zws sNB (hc 6 _ y rfl hy))
   | 7 => simp only [j6, List.getElem?_cons_succ, List.getElem?_cons_zero, Option.some.injEq] at hx; subst hx; exact mono1 (hc 7 _ y rfl hy)
   | i + 8 => simp [j6] at hx
/-- The guide that reckons each time. -/
theorem zpn {w : Wld} (hm : MayF w) : GuideK 160 (.agg #[]) (fun _ _ => True) 1 w := by
 have hB := hm.hB
 exact ⟨fun {n N c s} _ hc hs R h => ⟨_, _, zqn, zpm w.G hm.hg w.B (by omega) hm.hb c s hs _ _ (fun b hf => h b _ trivial (zd _ _ _))⟩,
  fun {n N c s} _ hn hc hs goal hgo R h => ⟨_, _, ly, zpb w.G hm.hg w.B (by omega) hm.hb c s hs goal hgo _ _ (fun b hf => h b _ trivial (zd _ _ _))⟩⟩
theorem na {F G : Store} {mb s p : Nat} {w : Wld} {v : AV} {L : List Ent} {o0 o1 o2 : AV} (hW : Mover F G mb s p w v L o0 o1 o2) (hmay : yg w) (hn : ∀ u ∈ w.U, u.pos.ok) {i : Nat} (hi : i < w.U.length) (h0 : w.U[i].inn = 0) (R : AV -> Store -> Prop)
  (h : ∀ F' G' L' q0 q1 q2, Mover F' G' mb s p (qf w w.U[i]) v L' q0 q1 q2 -> R (.tup []) (F'.un (svS G' s (qf w w.U[i]) v q0 q1 q2 p))) :
  ACalls Tryz.prog 41 [ptr mb, .agg (zp w.U[i])] (F.un (svS G s w v o0 o1 o2 p)) R := by
 have key := nh (zpn (Dw hmay)) (Nat.lt_succ_self 0) (N := Store.empty) hW (fun i _ h2 => (h2.elim (fun h => h rfl) (fun h => h rfl) : False)) trivial hmay hn hi h0
  (fun r S => ∃ F' G' L' q0 q1 q2 N2, Mover F' G' mb s p (qf w w.U[i]) v L' q0 q1 q2 /\ zv (F'.un (svS G' s (qf w w.U[i]) v q0 q1 q2 p)) N2 /\ r = .tup [] /\ S = (F'.un (svS G' s (qf w w.U[i]) v q0 q1 q2 p)).un N2) (fun F' G' L' q0 q1 q2 n2 N2 _ h1 h2 _ => ⟨F', G', L', q0, q1, q2, N2, h1, h2, rfl, rfl⟩)
 rw [Fj] at key
 refine ACalls.post key (Store.Le.refl _) ?_
 rintro r S ⟨F', G', L', q0, q1, q2, N2, h1, h2, rfl, rfl⟩
 exact ⟨_, _, Tt, (Store.Has.toLe ⟨fun b y hy => qj h2 hy, fun b y hy => I2 h2 hy⟩), h F' G' L' q0 q1 q2 h1⟩
open Classical in
/-- What a mover is told of a unit that is asked. -/
noncomputable def qm (w : Wld) (id : Int) : Int := if yg w then (match w.U.find? (fun u => u.id == id) with | none => 3 | some u => if u.inn = 0 then 0 else 9) else 1
theorem zw5 {w : Wld} {id : Int} (h : ¬ yg w) : qm w id = 1 := by unfold qm; rw [if_neg h]
theorem ef {l : List Unt} (hr : yq l) {i : Nat} (hi : i < l.length) : l.find? (fun u => u.id == l[i].id) = some l[i] := by
 rw [List.find?_eq_some_iff_getElem]
 refine ⟨by simp, i, hi, rfl, fun j hj => ?_⟩
 have := Hl hr hj hi
 rw [Bool.not_eq_true', beq_eq_false_iff_ne]
 omega
theorem Mc {w : Wld} (h : yg w) {i : Nat} (hi : i < w.U.length) : qm w w.U[i].id = if w.U[i].inn = 0 then 0 else 9 := by
 unfold qm
 rw [if_pos h, ef h.1.2.1 hi]
theorem zw4 {w : Wld} {id : Int} (h : yg w) (hn : ∀ u ∈ w.U, u.id ≠ id) : qm w id = 3 := by
 unfold qm
 rw [if_pos h, List.find?_eq_none.2 (fun u hu => by simpa using hn u hu)]
def unt0 : List AV := [int 0, int 0, int 0, int 0, int 0, int 0, int 0, int 0, int 0, int 0]
set_option maxHeartbeats 2000000 in
set_option maxRecDepth 20000 in
theorem zw1 (w : Wld) (hw : w.fits) (hn : ∀ u ∈ w.U, u.pos.ok) (hT : w.G.T.length <= 1000000) (hB : w.B.length <= 1000000) (hU : w.U.length <= 1000000) (id : Int) (R : AV -> Store -> Prop)
  (hbad : ∀ S, qm w id ≠ 0 -> R (.tup [.s (.pointer none), .agg unt0, int (qm w id)]) S)
  (hok : ∀ i, (hi : i < w.U.length) -> yg w -> w.U[i].id = id -> w.U[i].inn = 0 -> ∀ F G mb s p v L o0 o1 o2, Mover F G mb s p w v L o0 o1 o2 -> R (.tup [ptr mb, .agg (zp w.U[i]), int 0]) (F.un (svS G s w v o0 o1 o2 p))) :
  ACalls Tryz.prog 40 [.agg (yd w), int id] Store.empty R := by
 refine ACalls.of_body (c := cfg 47 [20] []) zb Tryz.func40 (by rfl) (by rfl) (by rfl) (by rfl) ?_
 refine zrc w hw hn _ _ (fun z hz => ?_)
 refine yf ?_
 refine zh (fun c1 => ?_) (fun c1 => ?_)
 rotate_left
 ·have hnm : ¬ yg w := fun hh => by rw [hz.2 hh] at c1; cases c1
  have e := zw5 (id := id) hnm
  have := hbad Store.empty (by rw [e]; decide)
  rw [e] at this
  exact ret this
 have hm := hz.1 c1
 have hr : yq w.U := hm.1.2.1
 refine zpt w (by omega) (by omega) (by omega) _ (fun v N hu => ?_)
 refine zp5 w v N hu hU hn _ (fun F s p L o0 o1 o2 hs hS hLl hmem => ?_)
 refine zxv rfl (it := ti160) rfl rfl ?_
 intro mb hmb
 have hnF : ¬ F.has mb /\ ¬ (svS N s w v o0 o1 o2 p).has mb := by
  have := fresh_iff.1 hmb
  exact ⟨fun hh => this (un_has.2 (.inl hh)), fun hh => this (un_has.2 (.inr hh))⟩
 have hms : mb ≠ s := fun e => hnF.2 (svS_has.2 (.inl e))
 have hmN : ¬ N.has mb := fun hh => hnF.2 (svS_has.2 (.inr hh))
 have hmN0 : N.obj mb = none := (Bk hmN).1
 have omb : Aq v mb := W7 hu hmN0
 have oms : Aq v s := W7 hu hS.hs
 have e0 : (F.un (svS N s w v o0 o1 o2 p)).setObj mb (.cells [ptr s, Co]) = F.un (svS (N.setObj mb (.cells [ptr s, Co])) s w v o0 o1 o2 p) := by
  rw [qk]
  unfold svS
  rw [Fx hms]
 have hW : Mover F (N.setObj mb (.cells [ptr s, Co])) mb s p w v L o0 o1 o2 :=
  ⟨⟨hS.hc, fun i h1 h2 => by
    rcases svS_has.1 h2 with h2 | h2
    ·exact hS.hd i h1 (svS_has.2 (.inl h2))
    ·rcases has_setObj_iff.1 h2 with h2 | h2
     ·subst h2; exact hnF.1 h1
     ·exact hS.hd i h1 (svS_has.2 (.inr h2)), by rw [zw (Ne.symm hms)]; exact hS.hs, hu.set omb _, hS.h0, hS.h1, hS.h2⟩, zd _ _ _, omb, oms, hLl, hmem hr⟩
 have e1 : (F.un (svS N s w v o0 o1 o2 p)).setObj mb (AObj.cells [AV.s (Value.pointer (some { block := s, off := 0 })), AV.s (Value.iface 160 (Value.agg #[]))]) = F.un (svS (N.setObj mb (.cells [ptr s, Co])) s w v o0 o1 o2 p) := e0
 refine Mb w.U (by omega) hr id _ _ (fun i hi z hz2 => ?_)
 rw [e1]
 refine yf ?_
 refine zh (fun c2 => ?_) (fun c2 => ?_)
 rotate_left
 ·have e := zw4 (id := id) hm (fun u hu' e => by
   obtain ⟨j, hj, rfl⟩ := List.getElem_of_mem hu'
   have hij : i = j := by
    by_cases h1 : j < i
    ·have := hi.2.1 j hj h1; omega
    ·by_cases h2 : i < j
     ·have h3 := hi.2.2 i (by omega) (Nat.le_refl _)
      have := Hl hr h2 hj
      omega
     ·omega
   subst hij
   rw [hz2.2 ⟨hj, e⟩] at c2
   cases c2)
  have := hbad (F.un (svS (N.setObj mb (.cells [ptr s, Co])) s w v o0 o1 o2 p)) (by rw [e]; decide)
  rw [e] at this
  exact ret this
 obtain ⟨hil, hid⟩ := hz2.1 c2
 have e := Mc hm hil
 rw [hid] at e
 refine ⟨i, rfl, za _ (zn hil) ?_⟩
 refine xd (fun c3 => ?_) (fun c3 => ?_)
 ·rw [if_neg c3] at e
  have := hbad (F.un (svS (N.setObj mb (.cells [ptr s, Co])) s w v o0 o1 o2 p)) (by rw [e]; decide)
  rw [e] at this
  exact ret this
 refine ADraw.of_sched zb (by rfl) (by rfl) zln (by rfl) ?_
 refine ⟨i, rfl, za _ (zn hil) ?_⟩
 refine ⟨⟨(by repeat (first | exact Tv | refine ⟨rfl, ?_⟩ | refine ⟨⟨i, rfl, za _ (zn hil) rfl⟩, ?_⟩)), ⟨⟨Tv, ⟨⟨Tv, ?_⟩, Tv⟩⟩, Tv⟩⟩, Tv⟩
 exact ret (hok i hil hm hid c3 F (N.setObj mb (.cells [ptr s, Co])) mb s p v L o0 o1 o2 hW)
def G8 : List AV := [int 0, int 0, int 0, int 0, int 0, nil, nil, nil]
open Classical in
/-- What becomes of a world when a unit is asked to go. -/
noncomputable def kw (w : Wld) (id : Int) : Wld := match w.U.find? (fun u => u.id == id) with | none => w | some u => qf w u
theorem I1 {w : Wld} (hr : yq w.U) {i : Nat} (hi : i < w.U.length) : kw w w.U[i].id = qf w w.U[i] := by
 unfold kw
 rw [ef hr hi]
set_option maxHeartbeats 2000000 in
theorem zqw (w : Wld) (hw : w.fits) (hn : ∀ u ∈ w.U, u.pos.ok) (hT : w.G.T.length <= 1000000) (hB : w.B.length <= 1000000) (hU : w.U.length <= 1000000) (id : Int) (R : AV -> Store -> Prop)
  (hbad : ∀ S, qm w id ≠ 0 -> R (.tup [.agg G8, int (qm w id)]) S)
  (hok : ∀ S v, qm w id = 0 -> RowsQ 10 zp S v (kw w id).U -> R (.tup [.agg (j6 (kw w id) v), int 0]) S) :
  ACalls Tryz.prog 13 [.agg (yd w), int id] Store.empty R := by
 refine ACalls.of_body (c := cfg 30) zb Tryz.func13 (by rfl) (by rfl) (by rfl) (by rfl) ?_
 refine zw1 w hw hn hT hB hU id _ (fun S he => ?_) (fun i hi hm hid h0 F G mb s p v L o0 o1 o2 hW => ?_)
 ·refine xd (fun c1 => ?_) (fun c1 => absurd c1 he)
  exact ret (hbad S he)
 have e := Mc hm hi
 rw [if_pos h0, hid] at e
 have e2 := I1 (w := w) hm.1.2.1 hi
 rw [hid] at e2
 rw [e2] at hok
 refine na hW hm hn hi h0 _ (fun F' G' L' q0 q1 q2 hW2 => ?_)
 generalize qf w w.U[i] = w2 at *
 obtain ⟨oa, cap, ev, _⟩ := hW2.S.hu.form
 subst ev
 refine za (o := (F'.un (svS G' s w2 _ q0 q1 q2 p)).obj mb) _ hW2.m ?_
 refine za (o := (F'.un (svS G' s w2 _ q0 q1 q2 p)).obj s) _ hW2.s ?_
 exact ret (hok _ _ e (Ng hW2.S.hs hW2.S.hu).un)
theorem zqx (w : Wld) (hw : w.fits) (hn : ∀ u ∈ w.U, u.pos.ok) (hT : w.G.T.length <= 1000000) (hB : w.B.length <= 1000000) (hU : w.U.length <= 1000000) (id : Int) :
  ACalls Tryz.prog 13 [.agg (yd w), int id] Store.empty fun r _ => (qm w id ≠ 0 /\ r = .tup [.agg G8, int (qm w id)]) \/ (qm w id = 0 /\ r = .tup [.agg (yd (kw w id)), int 0]) := by
 refine (zqw w hw hn hT hB hU id (fun r S => (qm w id ≠ 0 /\ r = .tup [.agg G8, int (qm w id)]) \/ (qm w id = 0 /\ ∃ v, RowsQ 10 zp S v (kw w id).U /\ r = .tup [.agg (j6 (kw w id) v), int 0])) (fun S he => .inl ⟨he, rfl⟩) (fun S v he hv => .inr ⟨he, v, hv, rfl⟩)).frozen ?_
 rintro r S (⟨he, rfl⟩ | ⟨he, v, hv, rfl⟩)
 ·exact ⟨_, .inl ⟨he, rfl⟩, fun Oth M W x sto hx => Av hx⟩
 ·refine ⟨_, .inr ⟨he, rfl⟩, fun Oth M W x sto hx => ?_⟩
  cases hx with
  | tup _ c hl hc =>
   refine .tup _ c hl fun i y z hy hz => ?_
   match i with
   | 0 => simp only [List.getElem?_cons_zero, Option.some.injEq] at hy; subst hy; exact li hv sto (hc 0 _ z rfl hz)
   | 1 => simp only [List.getElem?_cons_succ, List.getElem?_cons_zero, Option.some.injEq] at hy; subst hy; exact Av (hc 1 _ z rfl hz)
   | i + 2 => simp at hy
theorem bu (w : Wld) (hw : w.fits) (hn : ∀ u ∈ w.U, u.pos.ok) (hT : w.G.T.length <= 1000000) (hB : w.B.length <= 1000000) (hU : w.U.length <= 1000000) (id : Int) (st : Store) (R : AV -> Store -> Prop)
  (hbad : qm w id ≠ 0 -> R (.tup [.agg G8, int (qm w id)]) st) (hok : qm w id = 0 -> R (.tup [.agg (yd (kw w id)), int 0]) st) :
  ACalls Tryz.prog 13 [.agg (yd w), int id] st R :=
 O4 (zqx w hw hn hT hB hU id) st R fun r hr => by
  rcases hr with ⟨he, rfl⟩ | ⟨he, rfl⟩
  ·exact hbad he
  ·exact hok he
theorem ba (e : Int) (st : Store) (R : AV -> Store -> Prop) (h : R (int e) st) : ACalls Tryz.prog 14 [int e] st R := by
 refine ACalls.of_body (c := cfg 4) zb Tryz.func14 (by rfl) (by rfl) (by rfl) (by rfl) ?_
 exact ret h
theorem Mn {n : Nat} (hn : n < 6) : ∃ h0 : 0 < (wkS n).U.length, (wkS n).U[0] = vi (wkS n) := by
 have e := (Ca n hn).1
 have h0 : 0 < (wkS n).U.length := by rw [e]; exact Nat.zero_lt_one
 refine ⟨h0, ?_⟩
 simp only [e]
 rfl
theorem ls {n : Nat} (hn : n < 6) : qm (wkS n) 1 = 0 := by
 obtain ⟨h0, e⟩ := Mn hn
 obtain ⟨_, h1, h2, _⟩ := Ca n hn
 have := Mc (Ir n hn) h0
 rw [e, h1, if_pos h2] at this
 exact this
theorem lm {n : Nat} (hn : n < 5) : kw (wkS n) 1 = wkS (n + 1) := by
 obtain ⟨h0, e⟩ := Mn (n := n) (by omega)
 obtain ⟨_, h1, _⟩ := Ca n (by omega)
 have := I1 (Ir n (by omega)).1.2.1 h0
 rw [e, h1, lk hn] at this
 exact this
theorem ll {n : Nat} (hn : n < 6) : ∀ u ∈ (wkS n).U, u.pos.ok := fun u hu => by
 obtain ⟨_, h1, h2, h3, _⟩ := Ca n hn
 have hu2 : u.inn = 0 := by
  rw [(Ca n hn).1] at hu
  simp at hu
  rw [hu]
  exact h2
 exact v7 (Gd (Ir n hn) hu hu2)
theorem gf (g : Gnd) (hg : zi g) (t : Nat) (ht : t < g.T.length) (tI : Int) (htI : tI = (t : Int)) {x : Vc} (hx : zg g t = x) (st : Store) (R : AV -> Store -> Prop) (h : R (.agg (zy x)) st) : ACalls Tryz.prog 16 [.agg (zr g), int tI] st R :=
 Rb g hg t ht tI htI st R (hx ▸ h)
def Mm (w : Wld) (b : AV) : List AV := [int w.tick, int w.players, int w.next, int w.G.W, int w.G.H, Db w.G.T, b, lst 10 zp w.U]
theorem lj {w : Wld} {b : AV} (hb : AV.le b (lst 6 zz w.B)) : AV.le (.agg (Mm w b)) (.agg (yd w)) :=
 AV.le_aggL ⟨Tt, Tt, Tt, Tt, Tt, Tt, hb, Tt, Tv⟩
set_option maxHeartbeats 2000000 in
set_option maxRecDepth 20000 in
theorem R0 (st : Store) (R : AV -> Store -> Prop) (h : R (V.bool true) st) : ACalls Tryz.prog 17 [] st R := by
 refine ACalls.of_awp (c := cfg 50) zb Tryz.func17 (by rfl) (by rfl) (by rfl) (by rfl) ?_
 refine AWp.seq (AWp.of_vc zb ?_)
 refine AWp.seq (AWp.of_vc zb ?_)
 refine vm rfl (it := ti22) (ie := ti5) rfl rfl rfl rfl rfl (n := 2) (by decide) (by decide) (fun b hf => ?_)
 refine AWp.freezeBx (d := 1) (j := 5) (b := b) (n := 2) (cap := 2) (k := 1) (rows := rws u8C wkG.T) (pad := []) rfl rfl (zd _ _ _) hf.2 rfl (Nat.le_refl _) ?_ ?_ ?_
 ·intro row hr
  obtain ⟨x, _, rfl⟩ := List.mem_map.1 hr
  rfl
 ·intro row hr y hy
  obtain ⟨x, _, rfl⟩ := List.mem_map.1 hr
  simp [u8C, u8] at hy
  exact ⟨_, hy, rfl⟩
 rw [Da hf.1]
 refine AWp.of_vc zb ?_
 refine gf wkG Ru 0 (by decide) 0 rfl lr _ _ ?_
 refine ⟨by decide, ?_⟩
 refine AWp.loop (σ := Nat × AV) ⟨fun x => [(1, .bx 1 0), (2, .av (int (x.1 : Nat)))], fun x => [(1, Mm (wkS x.1) x.2)],
  fun x st' => x.1 <= 5 /\ st' = st /\ AV.le x.2 (lst 6 zz (wkS x.1).B), fun x => 5 - x.1⟩ zb ?_ ?_
 ·exact ⟨(0, nil), Tv, ⟨Nat.zero_le _, rfl, AV.le_nil 6⟩, ⟨Tq, Tq, Tv⟩, ⟨rfl, Tv⟩⟩
 rintro ⟨i, bv⟩ st' ⟨hi, rfl, hb⟩
 dsimp only at hi hb ⊢
 refine bcd (fun c1 => ?_) (fun c1 => ?_)
 ·have hi5 : i < 5 := by omega
  obtain ⟨u1, u2, u3, u4, u5⟩ := Ca i (by omega)
  obtain ⟨v1, v2, v3, v4, v5⟩ := Ca (i + 1) (by omega)
  refine ACalls.le (show leL [.agg (Mm (wkS i) bv), int 1] [.agg (yd (wkS i)), int 1] from ⟨lj hb, Tt, Tv⟩) (bu (wkS i) (Dw (Ir i (by omega))).fits (ll (by omega)) (by rw [u4]; decide) (by rw [u5]; decide) (by rw [u1]; exact (by decide : 1 <= 1000000)) 1 _ _ (fun he => absurd (ls (by omega)) he) (fun _ => ?_))
  rw [lm hi5]
  refine ba _ _ _ ?_
  refine xd (fun c2 => absurd (show ((rws zp (wkS (i + 1)).U).length : Int) = 1 by rw [zl, v1]; rfl) c2) (fun c2 => ?_)
  refine zc (by omega) ?_
  refine ⟨(i + 1, lst 6 zz (wkS (i + 1)).B), ?_, ⟨by dsimp only; omega, rfl, Tt⟩, ⟨Tq, Tq, Tv⟩, ⟨rfl, Tv⟩⟩
  show 5 - (i + 1) < 5 - i
  omega
 have : i = 5 := by omega
 subst this
 obtain ⟨h0, e0⟩ := Mn (n := 5) (by decide)
 obtain ⟨e1, e2⟩ := lp
 obtain ⟨u1, u2, u3, u4, u5⟩ := Ca 5 (by omega)
 refine ADraw.of_sched zb (by rfl) (by rfl) zmg (by rfl) ?_
 refine ⟨0, rfl, za _ (zn h0) ?_⟩
 refine ⟨gf (wkS 5).G (u4 ▸ Ru) 1 (by rw [u4]; decide) 1 rfl rfl _ _ ⟨(by repeat (first | exact Tv | refine ⟨rfl, ?_⟩ | refine ⟨optR (optR (optR (za _ (zd _ _ _) rfl))), ?_⟩)), ?_⟩, Tv⟩
 have hp : (wkS 5).U[0].pos = zg (wkS 5).G 1 := by rw [e0, u4]; exact e1
 have hs : (wkS 5).U[0].state = 2 := by rw [e0]; exact e2
 refine ⟨0, rfl, za _ (zn h0) ?_⟩
 exact ⟨⟨Tv, ret h⟩, Tv⟩
set_option maxRecDepth 20000 in
theorem zsj (a : Scr24) (st : Store) (R : AV -> Store -> Prop) (h : ∀ z : Bool, (z = true ↔ K3 a) -> R (bool z) st) : ACalls Tryz.prog 6 [.agg (Kb a)] st R := by
 refine ACalls.of_body (c := cfg 18) zb Tryz.func6 (by rfl) (by rfl) (by rfl) (by rfl) ?_
 repeat' (first | refine bcd (fun _ => ?_) (fun _ => ?_) | refine zh (fun _ => ?_) (fun _ => ?_) | refine zc (by omega) ?_ | (refine zs3 a.W _ _ ?_; rintro (_ | _) hz)| fail)
 all_goals
  refine ret (h _ ?_)
  simp only [decide_eq_true_eq, decide_eq_false_iff_not, Bool.false_eq_true, false_iff, true_iff, beq_iff_eq, bne_iff_ne, beq_eq_false_iff_ne, ne_eq, reduceCtorEq, zl, K3, H6] at *
  omega
theorem zw3 {w : Wld} {id : Int} (hm : yg w) (he : qm w id = 0) : ∃ (i : Nat) (hi : i < w.U.length), w.U[i].id = id /\ w.U[i].inn = 0 := by
 unfold qm at he
 rw [if_pos hm] at he
 cases hf : w.U.find? (fun u => u.id == id) with
 | none => rw [hf] at he; cases he
 | some u =>
  rw [hf] at he
  obtain ⟨i, hi, e⟩ := List.getElem_of_mem (List.mem_of_find?_eq_some hf)
  have hid := List.find?_some hf
  refine ⟨i, hi, ?_, ?_⟩
  ·rw [e]; simpa using hid
  ·rw [e]
   dsimp only at he
   by_cases h0 : u.inn = 0
   ·exact h0
   ·rw [if_neg h0] at he; cases he
theorem ng {w : Wld} (hw : playW w) {id : Int} (he : qm w id = 0) : ∃ (i : Nat) (hi : i < w.U.length) (u' : Unt), w.U[i].id = id /\ w.U[i].inn = 0 /\ kw w id = z8 w u' /\ Dh w.U[i] u' /\ playW (kw w id) := by
 obtain ⟨i, hi, e1, e2⟩ := zw3 hw.1 he
 obtain ⟨u', h1, h2⟩ := Se hw.1 hi e2
 have hm := zrb hw.1 hi e2
 have e := I1 hw.1.1.2.1 hi
 rw [e1] at e
 refine ⟨i, hi, u', e1, e2, by rw [e, h1], h2, by rw [e]; exact hm, ?_⟩
 rw [e, h1]
 exact zpd hw.2 (lv h2 (hw.2 _ (List.getElem_mem hi)))
theorem zqy (w : Wld) (hw : playW w) (id : Int) (st : Store) (R : AV -> Store -> Prop)
  (hbad : qm w id ≠ 0 -> R (.tup [.agg G8, int (qm w id)]) st) (hok : qm w id = 0 -> R (.tup [.agg (yd (kw w id)), int 0]) st) :
  ACalls Tryz.prog 13 [.agg (yd w), int id] st R :=
 bu w (Dw hw.1).fits hw.2 hw.sizes.1 hw.sizes.2.1 hw.sizes.2.2 id st R hbad hok
end Go.Proofs
