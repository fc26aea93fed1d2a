/- The ground on which laws of thronglaw23 are proved: contracts of functions and plain lemmas; no condition beyond the row's own. -/
import Derived.Test.YtlmechfgnfepoaaGreatSK
import Derived.Test.YtlmechfgnfepoaaGreatSN
import Derived.Test.YtlmechfgnfepoaaGreatSJ
import Derived.Test.YtlmechfgnfepoaaGreatSO
set_option linter.unusedSimpArgs false
set_option linter.unusedVariables false
namespace Go.Proofs
open Go Go.V
def zerB : List AV := [int 0, int 0, int 0, int 0, int 0, int 0]
theorem zwu (b : Bld) : ∀ y ∈ bldC b, y.one = true := by
 intro y hy
 obtain ⟨x, rfl, h⟩ := zfv b y hy
 exact h
theorem zvq (l : List Bld) : ∀ y ∈ (rws bldC l).flatten, y.one = true := by
 intro y hy
 obtain ⟨r, hr, hy⟩ := List.mem_flatten.1 hy
 obtain ⟨b, _, rfl⟩ := List.mem_map.1 hr
 exact zwu b y hy
set_option maxHeartbeats 1000000 in
theorem zo6 {N : Store} {v : AV} {l : List Bld} (hv : RowsQ 6 bldC N v l) (hl : l.length ≤ 256) {i : Nat} (hi : i < l.length) (R : AV → Store → Prop) (h : ∀ v' N', RowsQ 6 bldC N' v' (l.eraseIdx i) → R v' N') : ACalls Tryz.prog 169 [v, int (i : Nat), int ((i : Int) + 1)] N R := by
 rcases hv with (⟨_, hl0⟩ | ⟨b, cap, L, rfl, ho, hc1, hc2, hc3⟩) | ⟨_, _, _, hl0⟩
 ·subst hl0; exact absurd hi (Nat.not_lt_zero _)
 rotate_left
 ·subst hl0; exact absurd hi (Nat.not_lt_zero _)
 refine ACalls.of_body (c := cfg 33) zd Tryz.func169 (by rfl) (by rfl) (by rfl) (by rfl) ?_
 refine zjt (i := i) (j := i + 1) (m := l.length) rfl rfl rfl rfl (by omega) (by omega) hc1 (by omega) ?_
 refine bceq (fun hh => absurd hh (by omega)) (fun _ => ?_)
 refine ADraw.of_sched zd (by rfl) (by rfl) zuo (by rfl) ?_
 refine ⟨0, i, rfl, rfl, Nat.zero_le _, by omega, .inl ⟨by omega, ?_⟩⟩
 by_cases hc : i + 1 < cap
 ·refine ⟨i + 1, l.length, rfl, rfl, by omega, hc1, .inl ⟨hc, ?_⟩⟩
  refine ⟨⟨.inr ⟨_, _, rfl, rfl, zhv (ie := ti59) (n := i) (m := l.length - (i + 1)) (xs := (rws bldC (l.drop (i + 1))).flatten) rfl ho (by rw [List.length_append, zt zw]; exact hc2) (by omega) (by have := SrcOK.obj (P := Tryz.prog) (k := 6) (m := l.length - (i + 1)) (o := 0 + (i + 1) * 6) (cp := cap - (i + 1)) ho (by rw [List.length_append, zt zw]; omega) (by rw [Nat.zero_add, zem zw (by omega)]; exact zvq _); rw [Nat.zero_add, zem zw (by omega)] at this; rw [Nat.zero_add]; exact this) ⟨by show (i + (l.length - (i + 1))) * 48 ≤ _; omega, by omega⟩ (fun _ => ⟨trivial, ?_⟩) (fun hh => by omega)⟩⟩, trivial⟩
  rw [show zn ((rws bldC l).flatten ++ L) (i * ti59.size) (rws bldC (l.drop (i + 1))).flatten = (rws bldC (l.eraseIdx i)).flatten ++ (bldC l[l.length - 1] ++ L) from zbq zw hi L]
  have hel := zhf hi
  have ho2 : (N.setObj b (.cells ((rws bldC (l.eraseIdx i)).flatten ++ (bldC l[l.length - 1] ++ L)))).obj b = some (.cells ((rws bldC (l.eraseIdx i)).flatten ++ (bldC l[l.length - 1] ++ L))) := zb _ _ _
  generalize N.setObj b _ = N2 at ho2 ⊢
  refine ⟨⟨trivial, ?_⟩, trivial⟩
  refine ⟨i + (l.length - (i + 1)), l.length, rfl, rfl, by omega, hc1, .inl ⟨by omega, ?_⟩⟩
  refine zdo (ie := ti59) (b := b) (off := 0 + (i + (l.length - (i + 1))) * ti59.size) (l := (rws bldC (l.eraseIdx i)).flatten ++ (bldC l[l.length - 1] ++ L)) rfl rfl rfl rfl rfl rfl rfl (by omega) ho2 (by rw [List.length_append, zt zw, hel, List.length_append, zw]; show 0 + (i + (l.length - (i + 1))) * 6 + 6 ≤ _; omega) (by decide) ?_
  have e3 : zn ((rws bldC (l.eraseIdx i)).flatten ++ (bldC l[l.length - 1] ++ L)) (0 + (i + (l.length - (i + 1))) * ti59.size) (ti59.zero.map AV.s) = (rws bldC (l.eraseIdx i)).flatten ++ (zerB ++ L) := by
   have h1 : (rws bldC (l.eraseIdx i)).flatten.length = 0 + (i + (l.length - (i + 1))) * ti59.size := by
    rw [zt zw, hel]
    show _ = 0 + (i + (l.length - (i + 1))) * 6
    omega
   rw [qo h1, List.append_assoc]
   rfl
  rw [e3]
  have e4 : i + (l.length - (i + 1)) = (l.eraseIdx i).length := by omega
  refine ret (h _ _ (.inl (.inr ⟨b, cap, zerB ++ L, by rw [← e4]; rfl, zb _ _ _, by omega, by rw [List.length_append]; show cap * 6 ≤ _ * 6 + (6 + L.length); omega, hc3⟩)))
 ·refine ⟨i + 1, l.length, rfl, rfl, by omega, hc1, .inr ⟨by omega, ?_⟩⟩
  have e1 : l.drop (i + 1) = [] := List.drop_of_length_le (by omega)
  have hsp := zbq zw hi L
  rw [e1] at hsp
  have hsp : zn ((rws bldC l).flatten ++ L) (i * 6) [] = (rws bldC (l.eraseIdx i)).flatten ++ (bldC l[l.length - 1] ++ L) := hsp
  have hsrc : SrcOK Tryz.prog N 6 0 (.s (.slice (some ⟨b, 0, none⟩) 0 0)) [] := by
   have := SrcOK.obj (P := Tryz.prog) (k := 6) (m := 0) (o := 0) (cp := 0) ho (by omega) (fun y hy => by simp at hy)
   simpa using this
  refine ⟨⟨.inr ⟨_, _, rfl, rfl, zhv (ie := ti59) (n := i) (m := 0) (xs := []) rfl ho (by rw [List.length_append, zt zw]; exact hc2) (by omega) hsrc ⟨by show (i + (0)) * 48 ≤ _; omega, by omega⟩ (fun _ => ⟨trivial, ?_⟩) (fun hh => by omega)⟩⟩, trivial⟩
  rw [show zn ((rws bldC l).flatten ++ L) (i * ti59.size) [] = (rws bldC (l.eraseIdx i)).flatten ++ (bldC l[l.length - 1] ++ L) from hsp]
  have hel := zhf hi
  have ho2 : (N.setObj b (.cells ((rws bldC (l.eraseIdx i)).flatten ++ (bldC l[l.length - 1] ++ L)))).obj b = some (.cells ((rws bldC (l.eraseIdx i)).flatten ++ (bldC l[l.length - 1] ++ L))) := zb _ _ _
  generalize N.setObj b _ = N2 at ho2 ⊢
  refine ⟨⟨trivial, ?_⟩, trivial⟩
  refine ⟨i + (0), l.length, rfl, rfl, by omega, hc1, .inl ⟨by omega, ?_⟩⟩
  refine zdo (ie := ti59) (b := b) (off := 0 + (i + (0)) * ti59.size) (l := (rws bldC (l.eraseIdx i)).flatten ++ (bldC l[l.length - 1] ++ L)) rfl rfl rfl rfl rfl rfl rfl (by omega) ho2 (by rw [List.length_append, zt zw, hel, List.length_append, zw]; show 0 + (i + (0)) * 6 + 6 ≤ _; omega) (by decide) ?_
  have e3 : zn ((rws bldC (l.eraseIdx i)).flatten ++ (bldC l[l.length - 1] ++ L)) (0 + (i + (0)) * ti59.size) (ti59.zero.map AV.s) = (rws bldC (l.eraseIdx i)).flatten ++ (zerB ++ L) := by
   have h1 : (rws bldC (l.eraseIdx i)).flatten.length = 0 + (i + (0)) * ti59.size := by
    rw [zt zw, hel]
    show _ = 0 + (i + (0)) * 6
    omega
   rw [qo h1, List.append_assoc]
   rfl
  rw [e3]
  have e4 : i + (0) = (l.eraseIdx i).length := by omega
  refine ret (h _ _ (.inl (.inr ⟨b, cap, zerB ++ L, by rw [← e4]; rfl, zb _ _ _, by omega, by rw [List.length_append]; show cap * 6 ≤ _ * 6 + (6 + L.length); omega, hc3⟩)))
end Go.Proofs
namespace Go.Proofs
open Go Go.V
/-- Delete, of a list that the caller alone has: plain from then on. -/
theorem zo5 {N S : Store} (hd : Disj N S) {v : AV} {l : List Bld} (hv : RowsQ 6 bldC N v l) (hl : l.length ≤ 256) {i : Nat} (hi : i < l.length) (R : AV → Store → Prop) (h : R (lst 6 bldC (l.eraseIdx i)) S) : ACalls Tryz.prog 169 [v, int (i : Nat), int ((i : Int) + 1)] (N.un S) R := by
 have h1 : ACalls Tryz.prog 169 [v, int (i : Nat), int ((i : Int) + 1)] N fun r S2 => r = lst 6 bldC (l.eraseIdx i) ∧ S2 = Store.empty :=
  ACalls.frozenTo (zo6 hv hl hi (fun r N' => RowsQ 6 bldC N' r (l.eraseIdx i)) fun v' N' h => h) fun r N' hr =>
   ⟨_, Store.empty, ⟨rfl, rfl⟩, (fun b x hx => by cases hx), (fun b x hx => by cases hx), fun Oth M w v' sto hx => by
    refine (zc2 hr sto hx).mono fun b o hT => ?_
    exact ⟨hT.1, hT.2.resolve_right fun hh => hh rfl⟩⟩
 exact ACalls.frame hd h1 fun r S2 ⟨e, e2⟩ hd2 => by subst e e2; rw [qa]; exact h
theorem zi9 (b : Bld) (pb xw s : Nat) (c : Cmd) (fv : AV) (st : Store) (hb : st.obj pb = some (.cells [ptr xw])) (hx : st.obj xw = some (.cells (wkC s c fv))) (R : AV → Store → Prop) (h : R (V.bool (decide (b.id = c.N))) st) : ACalls Tryz.prog 168 ([.agg (bldC b)] ++ [ptr pb]) st R := by
 rw [← beqD] at h
 refine ACalls.of_body (c := cfg 12) zd Tryz.func168 (by rfl) (by rfl) (by rfl) (by rfl) ?_
 refine ADraw.of_sched zd (by rfl) (by rfl) zup (by rfl) ?_
 refine za (o := st.obj pb) _ hb ?_
 refine za (o := st.obj xw) _ hx ?_
 refine ⟨⟨?_, ?_⟩, trivial⟩
 ·repeat (first | exact trivial | refine ⟨rfl, ?_⟩ | refine ⟨za (o := st.obj pb) _ hb rfl, ?_⟩ | refine ⟨za (o := st.obj xw) _ hx rfl, ?_⟩)
 exact ret h
theorem zwi {w : Wld} {c : Cmd} {i : Nat} (h : zdz w.B c.N = some i) (hi : i < w.B.length) : drE w c = if w.B[i].owner = c.P then 0 else 6 := by
 unfold drE
 rw [h]
 simp [List.getD_eq_getElem?_getD, hi]
theorem zl1 {l : List Bld} {id : Int} {i : Nat} (h : zdz l id = some i) : ∃ hi : i < l.length, l[i].id = id := by
 unfold zdz at h
 rw [List.findIdx?_eq_some_iff_getElem] at h
 obtain ⟨h1, h2, _⟩ := h
 exact ⟨h1, of_decide_eq_true h2⟩
set_option maxHeartbeats 2000000 in
set_option maxRecDepth 20000 in
theorem zkv {F G : Store} {xw s p : Nat} {w : Wld} {v : AV} {L : List Ent} {o0 o1 o2 : AV} {c : Cmd} {fv : AV} (hW : Work F G xw s p w v L o0 o1 o2 c fv) (hm : MayF w) (R : AV → Store → Prop)
  (h : ∀ S', drE w c ≠ 0 → R (int (drE w c)) S') (h0 : drE w c = 0 → ∀ S', Done S' xw s c fv (drW w c) → R (int 0) S') : ACalls Tryz.prog 122 [ptr xw] (F.un (svS G s w v o0 o1 o2 p)) R := by
 have hx := hW.x (F' := F) (q0 := o0) (q1 := o1) (q2 := o2)
 have hs := hW.s (F' := F) (q0 := o0) (q1 := o1) (q2 := o2)
 have hr := hW.r (F' := F) (q0 := o0) (q1 := o1) (q2 := o2)
 have hxs := hW.ne
 have hos := hW.os
 have hB := hm.hB
 obtain ⟨oa, cap, e, hget⟩ := hW.S.hu.form
 subst e
 generalize F.un (svS G s w _ o0 o1 o2 p) = S at hx hs hr ⊢
 refine ACalls.of_body (c := cfg 56 [1] []) zd Tryz.func122 (by rfl) (by rfl) (by rfl) (by rfl) ?_
 intro pb hpb
 have hbx : xw ≠ pb := fun e => by
  subst e
  have := hpb.1
  rw [hx] at this
  cases this
 have hbs : s ≠ pb := fun e => by
  subst e
  have := hpb.1
  rw [hs] at this
  cases this
 have hb : (S.setObj pb (.cells [ptr xw])).obj pb = some (.cells [ptr xw]) := zb _ _ _
 have hx := (zg (st := S) (x := .cells [ptr xw]) hbx).trans hx
 have hs := (zg (st := S) (x := .cells [ptr xw]) hbs).trans hs
 have hr := hr.set (vq hr hpb.1) (.cells [ptr xw])
 refine za (o := (S.setObj pb (.cells [ptr xw])).obj pb) _ hb ?_
 refine za (o := (S.setObj pb (.cells [ptr xw])).obj xw) _ hx ?_
 refine za (o := (S.setObj pb (.cells [ptr xw])).obj s) _ hs ?_
 refine zat w.B (by omega) _ _ (fun b => decide (b.id = c.N)) _ (fun b _ R h => zi9 b pb xw s c fv _ hb hx R h) _ ?_
 have hfb : (w.B.findIdx? fun b => decide (b.id = c.N)) = zdz w.B c.N := rfl
 rw [hfb]
 refine bcd (fun c1 => ?_) (fun c1 => ?_)
 ·cases hf : zdz w.B c.N with
  | some i => rw [hf] at c1; exact absurd c1 (by show ¬ ((i : Int) < 0); omega)
  | none =>
   have he : drE w c = 3 := by unfold drE; rw [hf]
   have := h (S.setObj pb (.cells [ptr xw])) (by rw [he]; decide)
   rw [he] at this
   exact ret this
 cases hf : zdz w.B c.N with
 | none => rw [hf] at c1; exact absurd (show (-1 : Int) < 0 by decide) c1
 | some i =>
 obtain ⟨hi, hid⟩ := zl1 hf
 have he := zwi hf hi
 refine ADraw.of_sched zd (by rfl) (by rfl) zvb (by rfl) ?_
 refine za (o := (S.setObj pb (.cells [ptr xw])).obj pb) _ hb ?_
 refine za (o := (S.setObj pb (.cells [ptr xw])).obj xw) _ hx ?_
 refine za (o := (S.setObj pb (.cells [ptr xw])).obj s) _ hs ?_
 refine ⟨i, rfl, za _ (zl hi) ?_⟩
 refine za (o := (S.setObj pb (.cells [ptr xw])).obj pb) _ hb ?_
 refine za (o := (S.setObj pb (.cells [ptr xw])).obj xw) _ hx ?_
 refine ⟨⟨?_, ?_⟩, trivial⟩
 ·repeat (first | exact trivial | refine ⟨rfl, ?_⟩ | refine ⟨za (o := (S.setObj pb (.cells [ptr xw])).obj pb) _ hb rfl, ?_⟩ | refine ⟨za (o := (S.setObj pb (.cells [ptr xw])).obj xw) _ hx rfl, ?_⟩ | refine ⟨za (o := (S.setObj pb (.cells [ptr xw])).obj s) _ hs rfl, ?_⟩ | refine ⟨⟨i, rfl, za _ (zl hi) rfl⟩, ?_⟩)
 refine bcne (fun c2 => ?_) (fun c2 => ?_)
 ·rw [if_neg c2] at he
  have := h (S.setObj pb (.cells [ptr xw])) (by rw [he]; decide)
  rw [he] at this
  exact ret this
 rw [if_pos c2] at he
 have hW2 : drW w c = { w with B := w.B.eraseIdx i } := by unfold drW; rw [hf]
 refine ADraw.of_sched zd (by rfl) (by rfl) zva (by rfl) ?_
 refine za (o := (S.setObj pb (.cells [ptr xw])).obj pb) _ hb ?_
 refine za (o := (S.setObj pb (.cells [ptr xw])).obj xw) _ hx ?_
 refine za (o := (S.setObj pb (.cells [ptr xw])).obj pb) _ hb ?_
 refine za (o := (S.setObj pb (.cells [ptr xw])).obj xw) _ hx ?_
 refine za (o := (S.setObj pb (.cells [ptr xw])).obj s) _ hs ?_
 refine in64 (by show -9223372036854775808 ≤ ((i : Nat) : Int) + 1 ∧ ((i : Nat) : Int) + 1 ≤ 9223372036854775807; omega) ?_
 refine ⟨ww w.B (by omega) _ _ (fun v2 N hv2 hd => ⟨?_, ?_⟩), trivial⟩
 ·have hb2 : (N.un (S.setObj pb (.cells [ptr xw]))).obj pb = _ := un_r hb
  have hx2 : (N.un (S.setObj pb (.cells [ptr xw]))).obj xw = _ := un_r hx
  have hs2 : (N.un (S.setObj pb (.cells [ptr xw]))).obj s = _ := un_r hs
  repeat (first | exact trivial | refine ⟨rfl, ?_⟩ | refine ⟨za (o := (N.un (S.setObj pb (.cells [ptr xw]))).obj pb) _ hb2 rfl, ?_⟩ | refine ⟨za (o := (N.un (S.setObj pb (.cells [ptr xw]))).obj xw) _ hx2 rfl, ?_⟩ | refine ⟨za (o := (N.un (S.setObj pb (.cells [ptr xw]))).obj s) _ hs2 rfl, ?_⟩)
 refine ⟨zo5 hd hv2 (by omega) hi _ ⟨?_, ?_⟩, trivial⟩
 ·repeat (first | exact trivial | refine ⟨rfl, ?_⟩ | refine ⟨za (o := (S.setObj pb (.cells [ptr xw])).obj pb) _ hb rfl, ?_⟩ | refine ⟨za (o := (S.setObj pb (.cells [ptr xw])).obj xw) _ hx rfl, ?_⟩ | refine ⟨za (o := (S.setObj pb (.cells [ptr xw])).obj s) _ hs rfl, ?_⟩)
 refine ⟨?_, trivial⟩
 refine za _ rfl (yz rfl (qh (v := lst 6 bldC (w.B.eraseIdx i)) rfl rfl rfl rfl ?_))
 refine qi (i := ti25) (v := lst 6 bldC (w.B.eraseIdx i)) (b := s) (o := 6) (l := svC w (.s (.slice oa w.U.length cap)) o0 o1 o2 p) rfl rfl rfl hs (show 6 + 1 ≤ 12 by decide) ?_
 have hs3 : ((S.setObj pb (.cells [ptr xw])).setObj s (.cells (zn (svC w (.s (.slice oa w.U.length cap)) o0 o1 o2 p) 6 [lst 6 bldC (w.B.eraseIdx i)]))).obj s = some (.cells (svC { w with B := w.B.eraseIdx i } (.s (.slice oa w.U.length cap)) o0 o1 o2 p)) := zb _ _ _
 have hx3 := (zg (st := S.setObj pb (.cells [ptr xw])) (x := .cells (zn (svC w (.s (.slice oa w.U.length cap)) o0 o1 o2 p) 6 [lst 6 bldC (w.B.eraseIdx i)])) hxs).trans hx
 have hr3 := hr.set hos (.cells (zn (svC w (.s (.slice oa w.U.length cap)) o0 o1 o2 p) 6 [lst 6 bldC (w.B.eraseIdx i)]))
 have hb3 := (zg (st := S.setObj pb (.cells [ptr xw])) (x := .cells (zn (svC w (.s (.slice oa w.U.length cap)) o0 o1 o2 p) 6 [lst 6 bldC (w.B.eraseIdx i)])) (Ne.symm hbs)).trans hb
 refine ⟨trivial, ?_⟩
 exact ret (h0 he _ (by rw [hW2]; exact ⟨_, o0, o1, o2, p, hx3, hs3, hr3⟩))
theorem yci : kj 5 drE drW := by
 intro F G xw s p w v L o0 o1 o2 c hW hm hn hc hp hk R h h0
 have hx := hW.x (F' := F) (q0 := o0) (q1 := o1) (q2 := o2)
 refine ACalls.of_body (c := cfg 34) zd Tryz.func79 (by rfl) (by rfl) (by rfl) (by rfl) ?_
 refine za (o := (F.un (svS G s w v o0 o1 o2 p)).obj xw) _ hx ?_
 refine bceq (fun c1 => absurd (hk.symm.trans c1) (by decide)) (fun _ => ?_)
 refine bceq (fun c1 => absurd (hk.symm.trans c1) (by decide)) (fun _ => ?_)
 refine bceq (fun c1 => absurd (hk.symm.trans c1) (by decide)) (fun _ => ?_)
 refine bceq (fun c1 => absurd (hk.symm.trans c1) (by decide)) (fun _ => ?_)
 refine bceq (fun _ => ?_) (fun c1 => absurd hk c1)
 refine zkv hW (mayF hm) _ (fun S' he => ret (h S' he)) (fun he S' hd => ret (h0 he S' hd))
end Go.Proofs
namespace Go.Proofs
open Go Go.V
end Go.Proofs
namespace Go.Proofs
open Go Go.V
theorem ycf (k : Int) : kj k aE aW := by
 intro F G xw s p w v L o0 o1 o2 c hW hm hn hc hp hk R h h0
 rcases ybi hc with q | q | q | q | q | q | q
 ·obtain ⟨e1, e2⟩ := a1 (w := w) q
  rw [e1] at h h0
  rw [e2] at h0
  exact yao F G xw s p w v L o0 o1 o2 c hW hm hn hc hp q R h h0
 ·obtain ⟨e1, e2⟩ := a2 (w := w) q
  rw [e1] at h h0
  rw [e2] at h0
  exact ycl F G xw s p w v L o0 o1 o2 c hW hm hn hc hp q R h h0
 ·obtain ⟨e1, e2⟩ := a3 (w := w) q
  rw [e1] at h h0
  rw [e2] at h0
  exact yck F G xw s p w v L o0 o1 o2 c hW hm hn hc hp q R h h0
 ·obtain ⟨e1, e2⟩ := a4 (w := w) q
  rw [e1] at h h0
  rw [e2] at h0
  exact ycj F G xw s p w v L o0 o1 o2 c hW hm hn hc hp q R h h0
 ·obtain ⟨e1, e2⟩ := a5 (w := w) q
  rw [e1] at h h0
  rw [e2] at h0
  exact yci F G xw s p w v L o0 o1 o2 c hW hm hn hc hp q R h h0
 ·obtain ⟨e1, e2⟩ := a6 (w := w) q
  rw [e1] at h h0
  rw [e2] at h0
  exact ych F G xw s p w v L o0 o1 o2 c hW hm hn hc hp q R h h0
 ·obtain ⟨e1, e2⟩ := a7 (w := w) q
  rw [e1] at h h0
  rw [e2] at h0
  exact ycg F G xw s p w v L o0 o1 o2 c hW hm hn hc hp q R h h0
/-- Worlds that may be handed on. -/
def smallW (w : Wld) : Prop := (∀ u ∈ w.U, u.pos.ok) ∧ w.G.T.length ≤ 1000000 ∧ w.B.length ≤ 1000000 ∧ w.U.length ≤ 1000000
theorem smallW.fits {w : Wld} (h : smallW w) : w.fits := ⟨by unfold Gnd.fits; have := h.2.1; omega, by have := h.2.2.1; omega, by have := h.2.2.2; omega⟩
theorem zk0 {w z : Wld} {c : Cmd} (h : smallW w) (hz : z = doW aE aW w c ∨ z = w00q) : smallW z := by
 rcases hz with rfl | rfl
 ·by_cases he : doE aE w c = 0
  ·rw [zkh he]
   exact ⟨yby h.1 he, zxi (zki he).1⟩
  ·rw [zfo he]; exact h
 ·exact ⟨fun u hu => (by cases hu), by decide, by decide, by decide⟩
end Go.Proofs
namespace Go.Proofs
open Go Go.V
theorem appA (w : Wld) (hw : smallW w) (c : Cmd) (hc : c.fits) (st : Store) (R : AV → Store → Prop) (h : R (.tup [.agg (wldC (doW aE aW w c)), int (doE aE w c)]) st) : ACalls Tryz.prog 21 [.agg (wldC w), .agg (cmdC c)] st R :=
 za8 (ycf c.K) w hw.fits hw.1 hw.2.1 hw.2.2.1 hw.2.2.2 c (fun hm => zxi hm) hc rfl st R h
end Go.Proofs
namespace Go.Proofs
open Go Go.V
theorem zfx (w : Wld) (hw : smallW w) (c : Cmd) (hc : c.fits) (xs : List AV) (hx : leL xs [.agg (wldC w), .agg (cmdC c)]) {e : Int} (he : doEc w c = e) (st : Store) (R : AV → Store → Prop) (h : ∀ x, x = doWc w c → smallW x → R (.tup [.agg (wldC x), int e]) st) : ACalls Tryz.prog 21 xs st R := by
 refine ACalls.le hx (appA w hw c hc st R ?_)
 have hs := zk0 (c := c) hw (.inl rfl)
 rw [ycm] at hs ⊢
 rw [ybs, he]
 exact h _ rfl hs
set_option maxHeartbeats 2000000 in
set_option maxRecDepth 20000 in
theorem zdk (s : Scr) (hn : ∀ u ∈ s.W.U, u.pos.ok) (hfs : ∀ c ∈ s.L, c.sized) (st : Store) (R : AV → Store → Prop) (h : R (V.bool true) st) : ACalls Tryz.prog 14 [.agg (scrC s)] st R := by
 have hg5 : gndP g5 := by decide +kernel
 have hsm : smallW w5 := ⟨fun u hu => (by cases hu), by decide, by decide, by decide⟩
 have fit0 : ∀ c : Cmd, c.U = [] → c.fits := fun c e => by unfold Cmd.fits; rw [e]; decide
 refine ACalls.of_awp (c := cfg 140) zd Tryz.func14 (by rfl) (by rfl) (by rfl) (by rfl) ?_
 refine AWp.seq (AWp.of_vc zd ?_)
 refine AWp.seq (AWp.of_vc zd ?_)
 refine vj rfl (it := ti22) (ie := ti5) rfl rfl rfl rfl rfl (n := 25) (by decide) (by decide) (fun b hf => ?_)
 refine AWp.freezeBx (d := 3) (j := 2) (b := b) (n := 25) (cap := 25) (k := 1) (rows := rws u8C g5.T) (pad := []) rfl rfl (zb _ _ _) hf.2 rfl (Nat.le_refl _) ?_ ?_ ?_
 ·intro row hr
  obtain ⟨x, _, rfl⟩ := List.mem_map.1 hr
  rfl
 ·intro row hr y hy
  obtain ⟨x, _, rfl⟩ := List.mem_map.1 hr
  simp [u8C, u8] at hy
  exact ⟨_, hy, rfl⟩
 rw [j8 hf.1]
 refine AWp.of_vc zd ?_
 have hmod : 0 ≤ (s.L.length : Int).tmod 3 ∧ (s.L.length : Int).tmod 3 < 3 := ⟨Int.tmod_nonneg _ (by omega), Int.tmod_lt_of_pos _ (by decide)⟩
 obtain ⟨r, hr⟩ : ∃ r : Nat, (s.L.length : Int).tmod 3 = (r : Int) := ⟨((s.L.length : Int).tmod 3).toNat, by omega⟩
 refine AWp.loop (σ := Nat) ⟨fun t => [(1, .bx 1 0), (3, .bx 3 0), (4, .bx 4 0), (5, .av (int (t : Nat)))], fun _ => [(1, scrC s), (3, gndC g5), (4, [int 0, int 1, int 1, int 5, int 5, byts g5.T, .s (.slice none 0 0), .s (.slice none 0 0)])], fun t st' => t ≤ 30 ∧ st' = st, fun t => 40 - t⟩ zd ?_ ?_
 ·exact ⟨0, trivial, ⟨by decide, rfl⟩, ⟨lr_ _, lr_ _, lr_ _, lr_ _, trivial⟩, ⟨rfl, rfl, rfl, trivial⟩⟩
 rintro t st' ⟨ht, rfl⟩
 refine bcd (fun h1 => ?_) (fun h1 => zf1 _ _ (ret h))
 have htl : t < 25 := by omega
 obtain ⟨f1, f2, f3⟩ := zwt t htl
 obtain ⟨f4, f5, f6, f7⟩ := zws t htl
 obtain ⟨f8, f9, f10⟩ := zwr t htl
 refine zjk g5 hg5 t htl _ rfl _ _ ?_
 refine zfx w5 hsm (sp5 t) (fit0 _ rfl) _ ?_ f1 _ _ (fun A hA sA => ?_)
 ·exact ⟨AV.le_aggL ⟨ar_ _, ar_ _, ar_ _, ar_ _, ar_ _, ar_ _, AV.le_nil 6, AV.le_nil 10, trivial⟩, AV.le_aggL ⟨ar_ _, ar_ _, ar_ _, ar_ _, AV.le_nil 1, ar_ _, ar_ _, ar_ _, ar_ _, ar_ _, trivial⟩, trivial⟩
 rw [← hA] at f2
 refine zfx A sA (bd5 t) (fit0 _ rfl) _ ?_ f2 _ _ (fun A2 _ _ => ?_)
 ·exact ⟨ar_ _, AV.le_aggL ⟨ar_ _, ar_ _, ar_ _, ar_ _, AV.le_nil 1, ar_ _, ar_ _, ar_ _, ar_ _, ar_ _, trivial⟩, trivial⟩
 refine zfx w5 hsm (bd5 t) (fit0 _ rfl) _ ?_ f3 _ _ (fun B hB sB => ?_)
 ·exact ⟨AV.le_aggL ⟨ar_ _, ar_ _, ar_ _, ar_ _, ar_ _, ar_ _, AV.le_nil 6, AV.le_nil 10, trivial⟩, AV.le_aggL ⟨ar_ _, ar_ _, ar_ _, ar_ _, AV.le_nil 1, ar_ _, ar_ _, ar_ _, ar_ _, ar_ _, trivial⟩, trivial⟩
 rw [← hB] at f4 f5 f6 f7 f8 f9 f10
 refine zfx B sB (sp5 t) (fit0 _ rfl) _ ?_ f4 _ _ (fun A3 _ _ => ?_)
 ·exact ⟨ar_ _, AV.le_aggL ⟨ar_ _, ar_ _, ar_ _, ar_ _, AV.le_nil 1, ar_ _, ar_ _, ar_ _, ar_ _, ar_ _, trivial⟩, trivial⟩
 refine zfx B sB (bd5 t) (fit0 _ rfl) _ ?_ f5 _ _ (fun A4 _ _ => ?_)
 ·exact ⟨ar_ _, AV.le_aggL ⟨ar_ _, ar_ _, ar_ _, ar_ _, AV.le_nil 1, ar_ _, ar_ _, ar_ _, ar_ _, ar_ _, trivial⟩, trivial⟩
 refine yy _ _ _ ?_
 refine yy _ _ _ ?_
 refine yy _ _ _ ?_
 refine yy _ _ _ ?_
 refine yy _ _ _ ?_
 refine bcne (fun h6 => absurd (show ((rws bldC B.B).length : Int) = 1 by rw [zh, f6]; rfl) h6) (fun _ => ?_)
 have hB0 : 0 < B.B.length := by omega
 have hid0 : B.B[0].id = 1 := by
  have : (B.B.map (·.id))[0]'(by rw [List.length_map]; exact hB0) = B.B[0].id := List.getElem_map ..
  rw [← this]
  simp only [f7]
  rfl
 refine ADraw.of_sched zd (by rfl) (by rfl) zu1 (by rfl) ?_
 refine ⟨0, rfl, za _ (zl hB0) ?_⟩
 refine ⟨zfx B sB (dr5 1) (fit0 _ rfl) _ ?_ f8 _ _ (fun D hD sD => ⟨trivial, ?_⟩), ⟨⟨?_, ⟨zfx B sB (dr5 1) (fit0 _ rfl) _ ?_ f8 _ _ (fun D hD sD => ⟨trivial, ?_⟩), trivial⟩⟩, trivial⟩⟩
 ·exact ⟨ar_ _, AV.le_aggL ⟨ar_ _, ar_ _, ar_ _, (by rw [hid0]; exact ar_ _), AV.le_nil 1, ar_ _, ar_ _, ar_ _, ar_ _, ar_ _, trivial⟩, trivial⟩
 ·rw [← hD] at f9 f10
  refine ⟨⟨(by repeat (first | exact trivial | refine ⟨rfl, ?_⟩ | refine ⟨⟨0, rfl, za _ (zl hB0) rfl⟩, ?_⟩)), ⟨⟨trivial, ⟨⟨trivial, ?_⟩, trivial⟩⟩, trivial⟩⟩, trivial⟩
  refine zfx D sD (sp5 t) (fit0 _ rfl) _ ?_ f9 _ _ (fun X hX _ => ?_)
  ·exact ⟨ar_ _, AV.le_aggL ⟨ar_ _, ar_ _, ar_ _, ar_ _, AV.le_nil 1, ar_ _, ar_ _, ar_ _, ar_ _, ar_ _, trivial⟩, trivial⟩
  rw [← hX] at f10
  have hX0 : 0 < X.U.length := by have := congrArg List.length f10; rw [List.length_map] at this; rw [this]; decide
  have hX1 : X.U.length = 1 := by have := congrArg List.length f10; rw [List.length_map] at this; exact this
  have hXid : X.U[0].id = 2 := by
   have : (X.U.map (·.id))[0]'(by rw [List.length_map]; exact hX0) = X.U[0].id := List.getElem_map ..
   rw [← this]
   simp only [f10]
   rfl
  refine yy _ _ _ ?_
  refine yy _ _ _ ?_
  refine bcne (fun h6 => absurd (show ((rws untC X.U).length : Int) = 1 by rw [zh, hX1]; rfl) h6) (fun _ => ?_)
  refine ⟨0, rfl, za _ (zl hX0) ?_⟩
  refine bcne (fun h6 => absurd hXid h6) (fun _ => ?_)
  refine in64 (by omega) ?_
  refine ⟨by decide, ?_⟩
  refine in64 (by rw [zh, hr]; omega) ?_
  refine ⟨t + 1 + r, (show 40 - (t + 1 + r) < 40 - t by omega), ⟨by omega, rfl⟩, ⟨lr_ _, lr_ _, lr_ _, ?_, trivial⟩, ⟨rfl, rfl, rfl, trivial⟩⟩
  rw [show ((t + 1 + r : Nat) : Int) = (t : Int) + 1 + ((rws cmdC s.L).length : Int).tmod 3 by rw [zh, hr]; omega]; exact lr_ _
 ·repeat (first | exact trivial | refine ⟨rfl, ?_⟩ | refine ⟨⟨0, rfl, za _ (zl hB0) rfl⟩, ?_⟩)
 ·exact ⟨ar_ _, AV.le_aggL ⟨ar_ _, ar_ _, ar_ _, (by rw [hid0]; exact ar_ _), AV.le_nil 1, ar_ _, ar_ _, ar_ _, ar_ _, ar_ _, trivial⟩, trivial⟩
 ·rw [← hD] at f9 f10
  refine ⟨⟨trivial, ⟨⟨trivial, ?_⟩, trivial⟩⟩, trivial⟩
  refine zfx D sD (sp5 t) (fit0 _ rfl) _ ?_ f9 _ _ (fun X hX _ => ?_)
  ·exact ⟨ar_ _, AV.le_aggL ⟨ar_ _, ar_ _, ar_ _, ar_ _, AV.le_nil 1, ar_ _, ar_ _, ar_ _, ar_ _, ar_ _, trivial⟩, trivial⟩
  rw [← hX] at f10
  have hX0 : 0 < X.U.length := by have := congrArg List.length f10; rw [List.length_map] at this; rw [this]; decide
  have hX1 : X.U.length = 1 := by have := congrArg List.length f10; rw [List.length_map] at this; exact this
  have hXid : X.U[0].id = 2 := by
   have : (X.U.map (·.id))[0]'(by rw [List.length_map]; exact hX0) = X.U[0].id := List.getElem_map ..
   rw [← this]
   simp only [f10]
   rfl
  refine yy _ _ _ ?_
  refine yy _ _ _ ?_
  refine bcne (fun h6 => absurd (show ((rws untC X.U).length : Int) = 1 by rw [zh, hX1]; rfl) h6) (fun _ => ?_)
  refine ⟨0, rfl, za _ (zl hX0) ?_⟩
  refine bcne (fun h6 => absurd hXid h6) (fun _ => ?_)
  refine in64 (by omega) ?_
  refine ⟨by decide, ?_⟩
  refine in64 (by rw [zh, hr]; omega) ?_
  refine ⟨t + 1 + r, (show 40 - (t + 1 + r) < 40 - t by omega), ⟨by omega, rfl⟩, ⟨lr_ _, lr_ _, lr_ _, ?_, trivial⟩, ⟨rfl, rfl, rfl, trivial⟩⟩
  rw [show ((t + 1 + r : Nat) : Int) = (t : Int) + 1 + ((rws cmdC s.L).length : Int).tmod 3 by rw [zh, hr]; omega]; exact lr_ _
end Go.Proofs
