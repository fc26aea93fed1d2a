/- The ground on which laws of thronglaw23 are proved: contracts of functions and plain lemmas; no condition beyond the row's own. -/
import Derived.Test.YtlmechfgnfepoaaGreatSK
import Derived.Test.YtlmechfgnfepoaaGreatSN
import Derived.Test.YtlmechfgnfepoaaGreatSJ
import Derived.Test.YtlmechfgnfepoaaGreatSO
set_option linter.unusedSimpArgs false
set_option linter.unusedVariables false
namespace Go.Proofs
open Go Go.V
def zerB : List AV := [int 0, int 0, int 0, int 0, int 0, int 0]
theorem zyo (b : Bld) : ∀ y ∈ bldC b, y.one = true := by
 intro y hy
 obtain ⟨x, rfl, h⟩ := zgs b y hy
 exact h
theorem zxj (l : List Bld) : ∀ y ∈ (rws bldC l).flatten, y.one = true := by
 intro y hy
 obtain ⟨r, hr, hy⟩ := List.mem_flatten.1 hy
 obtain ⟨b, _, rfl⟩ := List.mem_map.1 hr
 exact zyo b y hy
set_option maxHeartbeats 1000000 in
theorem zqr {N : Store} {v : AV} {l : List Bld} (hv : RowsQ 6 bldC N v l) (hl : l.length ≤ 256) {i : Nat} (hi : i < l.length) (R : AV → Store → Prop) (h : ∀ v' N', RowsQ 6 bldC N' v' (l.eraseIdx i) → R v' N') : ACalls Tryz.prog 169 [v, int (i : Nat), int ((i : Int) + 1)] N R := by
 rcases hv with (⟨_, hl0⟩ | ⟨b, cap, L, rfl, ho, hc1, hc2, hc3⟩) | ⟨_, _, _, hl0⟩
 ·subst hl0; exact absurd hi (Nat.not_lt_zero _)
 rotate_left
 ·subst hl0; exact absurd hi (Nat.not_lt_zero _)
 refine ACalls.of_body (c := cfg 33) zd Tryz.func169 (by rfl) (by rfl) (by rfl) (by rfl) ?_
 refine zkv (i := i) (j := i + 1) (m := l.length) rfl rfl rfl rfl (by omega) (by omega) hc1 (by omega) ?_
 refine bceq (fun hh => absurd hh (by omega)) (fun _ => ?_)
 refine ADraw.of_sched zd (by rfl) (by rfl) zwe (by rfl) ?_
 refine ⟨0, i, rfl, rfl, Nat.zero_le _, by omega, .inl ⟨by omega, ?_⟩⟩
 by_cases hc : i + 1 < cap
 ·refine ⟨i + 1, l.length, rfl, rfl, by omega, hc1, .inl ⟨hc, ?_⟩⟩
  refine ⟨⟨.inr ⟨_, _, rfl, rfl, zi2 (ie := ti59) (n := i) (m := l.length - (i + 1)) (xs := (rws bldC (l.drop (i + 1))).flatten) rfl ho (by rw [List.length_append, zu zy]; exact hc2) (by omega) (by have := SrcOK.obj (P := Tryz.prog) (k := 6) (m := l.length - (i + 1)) (o := 0 + (i + 1) * 6) (cp := cap - (i + 1)) ho (by rw [List.length_append, zu zy]; omega) (by rw [Nat.zero_add, zfb zy (by omega)]; exact zxj _); rw [Nat.zero_add, zfb zy (by omega)] at this; rw [Nat.zero_add]; exact this) ⟨by show (i + (l.length - (i + 1))) * 48 ≤ _; omega, by omega⟩ (fun _ => ⟨trivial, ?_⟩) (fun hh => by omega)⟩⟩, trivial⟩
  rw [show zn ((rws bldC l).flatten ++ L) (i * ti59.size) (rws bldC (l.drop (i + 1))).flatten = (rws bldC (l.eraseIdx i)).flatten ++ (bldC l[l.length - 1] ++ L) from zb8 zy hi L]
  have hel := zil hi
  have ho2 : (N.setObj b (.cells ((rws bldC (l.eraseIdx i)).flatten ++ (bldC l[l.length - 1] ++ L)))).obj b = some (.cells ((rws bldC (l.eraseIdx i)).flatten ++ (bldC l[l.length - 1] ++ L))) := zb _ _ _
  generalize N.setObj b _ = N2 at ho2 ⊢
  refine ⟨⟨trivial, ?_⟩, trivial⟩
  refine ⟨i + (l.length - (i + 1)), l.length, rfl, rfl, by omega, hc1, .inl ⟨by omega, ?_⟩⟩
  refine zeb (ie := ti59) (b := b) (off := 0 + (i + (l.length - (i + 1))) * ti59.size) (l := (rws bldC (l.eraseIdx i)).flatten ++ (bldC l[l.length - 1] ++ L)) rfl rfl rfl rfl rfl rfl rfl (by omega) ho2 (by rw [List.length_append, zu zy, hel, List.length_append, zy]; show 0 + (i + (l.length - (i + 1))) * 6 + 6 ≤ _; omega) (by decide) ?_
  have e3 : zn ((rws bldC (l.eraseIdx i)).flatten ++ (bldC l[l.length - 1] ++ L)) (0 + (i + (l.length - (i + 1))) * ti59.size) (ti59.zero.map AV.s) = (rws bldC (l.eraseIdx i)).flatten ++ (zerB ++ L) := by
   have h1 : (rws bldC (l.eraseIdx i)).flatten.length = 0 + (i + (l.length - (i + 1))) * ti59.size := by
    rw [zu zy, hel]
    show _ = 0 + (i + (l.length - (i + 1))) * 6
    omega
   rw [qp h1, List.append_assoc]
   rfl
  rw [e3]
  have e4 : i + (l.length - (i + 1)) = (l.eraseIdx i).length := by omega
  refine ret (h _ _ (.inl (.inr ⟨b, cap, zerB ++ L, by rw [← e4]; rfl, zb _ _ _, by omega, by rw [List.length_append]; show cap * 6 ≤ _ * 6 + (6 + L.length); omega, hc3⟩)))
 ·refine ⟨i + 1, l.length, rfl, rfl, by omega, hc1, .inr ⟨by omega, ?_⟩⟩
  have e1 : l.drop (i + 1) = [] := List.drop_of_length_le (by omega)
  have hsp := zb8 zy hi L
  rw [e1] at hsp
  have hsp : zn ((rws bldC l).flatten ++ L) (i * 6) [] = (rws bldC (l.eraseIdx i)).flatten ++ (bldC l[l.length - 1] ++ L) := hsp
  have hsrc : SrcOK Tryz.prog N 6 0 (.s (.slice (some ⟨b, 0, none⟩) 0 0)) [] := by
   have := SrcOK.obj (P := Tryz.prog) (k := 6) (m := 0) (o := 0) (cp := 0) ho (by omega) (fun y hy => by simp at hy)
   simpa using this
  refine ⟨⟨.inr ⟨_, _, rfl, rfl, zi2 (ie := ti59) (n := i) (m := 0) (xs := []) rfl ho (by rw [List.length_append, zu zy]; exact hc2) (by omega) hsrc ⟨by show (i + (0)) * 48 ≤ _; omega, by omega⟩ (fun _ => ⟨trivial, ?_⟩) (fun hh => by omega)⟩⟩, trivial⟩
  rw [show zn ((rws bldC l).flatten ++ L) (i * ti59.size) [] = (rws bldC (l.eraseIdx i)).flatten ++ (bldC l[l.length - 1] ++ L) from hsp]
  have hel := zil hi
  have ho2 : (N.setObj b (.cells ((rws bldC (l.eraseIdx i)).flatten ++ (bldC l[l.length - 1] ++ L)))).obj b = some (.cells ((rws bldC (l.eraseIdx i)).flatten ++ (bldC l[l.length - 1] ++ L))) := zb _ _ _
  generalize N.setObj b _ = N2 at ho2 ⊢
  refine ⟨⟨trivial, ?_⟩, trivial⟩
  refine ⟨i + (0), l.length, rfl, rfl, by omega, hc1, .inl ⟨by omega, ?_⟩⟩
  refine zeb (ie := ti59) (b := b) (off := 0 + (i + (0)) * ti59.size) (l := (rws bldC (l.eraseIdx i)).flatten ++ (bldC l[l.length - 1] ++ L)) rfl rfl rfl rfl rfl rfl rfl (by omega) ho2 (by rw [List.length_append, zu zy, hel, List.length_append, zy]; show 0 + (i + (0)) * 6 + 6 ≤ _; omega) (by decide) ?_
  have e3 : zn ((rws bldC (l.eraseIdx i)).flatten ++ (bldC l[l.length - 1] ++ L)) (0 + (i + (0)) * ti59.size) (ti59.zero.map AV.s) = (rws bldC (l.eraseIdx i)).flatten ++ (zerB ++ L) := by
   have h1 : (rws bldC (l.eraseIdx i)).flatten.length = 0 + (i + (0)) * ti59.size := by
    rw [zu zy, hel]
    show _ = 0 + (i + (0)) * 6
    omega
   rw [qp h1, List.append_assoc]
   rfl
  rw [e3]
  have e4 : i + (0) = (l.eraseIdx i).length := by omega
  refine ret (h _ _ (.inl (.inr ⟨b, cap, zerB ++ L, by rw [← e4]; rfl, zb _ _ _, by omega, by rw [List.length_append]; show cap * 6 ≤ _ * 6 + (6 + L.length); omega, hc3⟩)))
end Go.Proofs
namespace Go.Proofs
open Go Go.V
/-- Delete, of a list that the caller alone has: plain from then on. -/
theorem zqq {N S : Store} (hd : Disj N S) {v : AV} {l : List Bld} (hv : RowsQ 6 bldC N v l) (hl : l.length ≤ 256) {i : Nat} (hi : i < l.length) (R : AV → Store → Prop) (h : R (lst 6 bldC (l.eraseIdx i)) S) : ACalls Tryz.prog 169 [v, int (i : Nat), int ((i : Int) + 1)] (N.un S) R := by
 have h1 : ACalls Tryz.prog 169 [v, int (i : Nat), int ((i : Int) + 1)] N fun r S2 => r = lst 6 bldC (l.eraseIdx i) ∧ S2 = Store.empty :=
  ACalls.frozenTo (zqr hv hl hi (fun r N' => RowsQ 6 bldC N' r (l.eraseIdx i)) fun v' N' h => h) fun r N' hr =>
   ⟨_, Store.empty, ⟨rfl, rfl⟩, (fun b x hx => by cases hx), (fun b x hx => by cases hx), fun Oth M w v' sto hx => by
    refine (zdn hr sto hx).mono fun b o hT => ?_
    exact ⟨hT.1, hT.2.resolve_right fun hh => hh rfl⟩⟩
 exact ACalls.frame hd h1 fun r S2 ⟨e, e2⟩ hd2 => by subst e e2; rw [qb]; exact h
theorem zke (b : Bld) (pb xw s : Nat) (c : Cmd) (fv : AV) (st : Store) (hb : st.obj pb = some (.cells [ptr xw])) (hx : st.obj xw = some (.cells (wkC s c fv))) (R : AV → Store → Prop) (h : R (V.bool (decide (b.id = c.N))) st) : ACalls Tryz.prog 168 ([.agg (bldC b)] ++ [ptr pb]) st R := by
 rw [← beqD] at h
 refine ACalls.of_body (c := cfg 12) zd Tryz.func168 (by rfl) (by rfl) (by rfl) (by rfl) ?_
 refine ADraw.of_sched zd (by rfl) (by rfl) zwf (by rfl) ?_
 refine za (o := st.obj pb) _ hb ?_
 refine za (o := st.obj xw) _ hx ?_
 refine ⟨⟨?_, ?_⟩, trivial⟩
 ·repeat (first | exact trivial | refine ⟨rfl, ?_⟩ | refine ⟨za (o := st.obj pb) _ hb rfl, ?_⟩ | refine ⟨za (o := st.obj xw) _ hx rfl, ?_⟩)
 exact ret h
theorem zyd {w : Wld} {c : Cmd} {i : Nat} (h : zdy w.B c.N = some i) (hi : i < w.B.length) : drE w c = if w.B[i].owner = c.P then 0 else 6 := by
 unfold drE
 rw [h]
 simp [List.getD_eq_getElem?_getD, hi]
theorem znd {l : List Bld} {id : Int} {i : Nat} (h : zdy l id = some i) : ∃ hi : i < l.length, l[i].id = id := by
 unfold zdy at h
 rw [List.findIdx?_eq_some_iff_getElem] at h
 obtain ⟨h1, h2, _⟩ := h
 exact ⟨h1, of_decide_eq_true h2⟩
set_option maxHeartbeats 2000000 in
set_option maxRecDepth 20000 in
theorem zly {F G : Store} {xw s p : Nat} {w : Wld} {v : AV} {L : List Ent} {o0 o1 o2 : AV} {c : Cmd} {fv : AV} (hW : Work F G xw s p w v L o0 o1 o2 c fv) (hm : MayF w) (R : AV → Store → Prop)
  (h : ∀ S', drE w c ≠ 0 → R (int (drE w c)) S') (h0 : drE w c = 0 → ∀ S', Done S' xw s c fv (drW w c) → R (int 0) S') : ACalls Tryz.prog 122 [ptr xw] (F.un (svS G s w v o0 o1 o2 p)) R := by
 have hx := hW.x (F' := F) (q0 := o0) (q1 := o1) (q2 := o2)
 have hs := hW.s (F' := F) (q0 := o0) (q1 := o1) (q2 := o2)
 have hr := hW.r (F' := F) (q0 := o0) (q1 := o1) (q2 := o2)
 have hxs := hW.ne
 have hos := hW.os
 have hB := hm.hB
 obtain ⟨oa, cap, e, hget⟩ := hW.S.hu.form
 subst e
 generalize F.un (svS G s w _ o0 o1 o2 p) = S at hx hs hr ⊢
 refine ACalls.of_body (c := cfg 56 [1] []) zd Tryz.func122 (by rfl) (by rfl) (by rfl) (by rfl) ?_
 intro pb hpb
 have hbx : xw ≠ pb := fun e => by
  subst e
  have := hpb.1
  rw [hx] at this
  cases this
 have hbs : s ≠ pb := fun e => by
  subst e
  have := hpb.1
  rw [hs] at this
  cases this
 have hb : (S.setObj pb (.cells [ptr xw])).obj pb = some (.cells [ptr xw]) := zb _ _ _
 have hx := (zg (st := S) (x := .cells [ptr xw]) hbx).trans hx
 have hs := (zg (st := S) (x := .cells [ptr xw]) hbs).trans hs
 have hr := hr.set (wk hr hpb.1) (.cells [ptr xw])
 refine za (o := (S.setObj pb (.cells [ptr xw])).obj pb) _ hb ?_
 refine za (o := (S.setObj pb (.cells [ptr xw])).obj xw) _ hx ?_
 refine za (o := (S.setObj pb (.cells [ptr xw])).obj s) _ hs ?_
 refine zbb w.B (by omega) _ _ (fun b => decide (b.id = c.N)) _ (fun b _ R h => zke b pb xw s c fv _ hb hx R h) _ ?_
 have hfb : (w.B.findIdx? fun b => decide (b.id = c.N)) = zdy w.B c.N := rfl
 rw [hfb]
 refine bcd (fun c1 => ?_) (fun c1 => ?_)
 ·cases hf : zdy w.B c.N with
  | some i => rw [hf] at c1; exact absurd c1 (by show ¬ ((i : Int) < 0); omega)
  | none =>
   have he : drE w c = 3 := by unfold drE; rw [hf]
   have := h (S.setObj pb (.cells [ptr xw])) (by rw [he]; decide)
   rw [he] at this
   exact ret this
 cases hf : zdy w.B c.N with
 | none => rw [hf] at c1; exact absurd (show (-1 : Int) < 0 by decide) c1
 | some i =>
 obtain ⟨hi, hid⟩ := znd hf
 have he := zyd hf hi
 refine ADraw.of_sched zd (by rfl) (by rfl) zw4 (by rfl) ?_
 refine za (o := (S.setObj pb (.cells [ptr xw])).obj pb) _ hb ?_
 refine za (o := (S.setObj pb (.cells [ptr xw])).obj xw) _ hx ?_
 refine za (o := (S.setObj pb (.cells [ptr xw])).obj s) _ hs ?_
 refine ⟨i, rfl, za _ (zj hi) ?_⟩
 refine za (o := (S.setObj pb (.cells [ptr xw])).obj pb) _ hb ?_
 refine za (o := (S.setObj pb (.cells [ptr xw])).obj xw) _ hx ?_
 refine ⟨⟨?_, ?_⟩, trivial⟩
 ·repeat (first | exact trivial | refine ⟨rfl, ?_⟩ | refine ⟨za (o := (S.setObj pb (.cells [ptr xw])).obj pb) _ hb rfl, ?_⟩ | refine ⟨za (o := (S.setObj pb (.cells [ptr xw])).obj xw) _ hx rfl, ?_⟩ | refine ⟨za (o := (S.setObj pb (.cells [ptr xw])).obj s) _ hs rfl, ?_⟩ | refine ⟨⟨i, rfl, za _ (zj hi) rfl⟩, ?_⟩)
 refine bcne (fun c2 => ?_) (fun c2 => ?_)
 ·rw [if_neg c2] at he
  have := h (S.setObj pb (.cells [ptr xw])) (by rw [he]; decide)
  rw [he] at this
  exact ret this
 rw [if_pos c2] at he
 have hW2 : drW w c = { w with B := w.B.eraseIdx i } := by unfold drW; rw [hf]
 refine ADraw.of_sched zd (by rfl) (by rfl) zw3 (by rfl) ?_
 refine za (o := (S.setObj pb (.cells [ptr xw])).obj pb) _ hb ?_
 refine za (o := (S.setObj pb (.cells [ptr xw])).obj xw) _ hx ?_
 refine za (o := (S.setObj pb (.cells [ptr xw])).obj pb) _ hb ?_
 refine za (o := (S.setObj pb (.cells [ptr xw])).obj xw) _ hx ?_
 refine za (o := (S.setObj pb (.cells [ptr xw])).obj s) _ hs ?_
 refine in64 (by show -9223372036854775808 ≤ ((i : Nat) : Int) + 1 ∧ ((i : Nat) : Int) + 1 ≤ 9223372036854775807; omega) ?_
 refine ⟨zao w.B (by omega) _ _ (fun v2 N hv2 hd => ⟨?_, ?_⟩), trivial⟩
 ·have hb2 : (N.un (S.setObj pb (.cells [ptr xw]))).obj pb = _ := un_r hb
  have hx2 : (N.un (S.setObj pb (.cells [ptr xw]))).obj xw = _ := un_r hx
  have hs2 : (N.un (S.setObj pb (.cells [ptr xw]))).obj s = _ := un_r hs
  repeat (first | exact trivial | refine ⟨rfl, ?_⟩ | refine ⟨za (o := (N.un (S.setObj pb (.cells [ptr xw]))).obj pb) _ hb2 rfl, ?_⟩ | refine ⟨za (o := (N.un (S.setObj pb (.cells [ptr xw]))).obj xw) _ hx2 rfl, ?_⟩ | refine ⟨za (o := (N.un (S.setObj pb (.cells [ptr xw]))).obj s) _ hs2 rfl, ?_⟩)
 refine ⟨zqq hd hv2 (by omega) hi _ ⟨?_, ?_⟩, trivial⟩
 ·repeat (first | exact trivial | refine ⟨rfl, ?_⟩ | refine ⟨za (o := (S.setObj pb (.cells [ptr xw])).obj pb) _ hb rfl, ?_⟩ | refine ⟨za (o := (S.setObj pb (.cells [ptr xw])).obj xw) _ hx rfl, ?_⟩ | refine ⟨za (o := (S.setObj pb (.cells [ptr xw])).obj s) _ hs rfl, ?_⟩)
 refine ⟨?_, trivial⟩
 refine za _ rfl (yz rfl (qi (v := lst 6 bldC (w.B.eraseIdx i)) rfl rfl rfl rfl ?_))
 refine qj (i := ti25) (v := lst 6 bldC (w.B.eraseIdx i)) (b := s) (o := 6) (l := svC w (.s (.slice oa w.U.length cap)) o0 o1 o2 p) rfl rfl rfl hs (show 6 + 1 ≤ 12 by decide) ?_
 have hs3 : ((S.setObj pb (.cells [ptr xw])).setObj s (.cells (zn (svC w (.s (.slice oa w.U.length cap)) o0 o1 o2 p) 6 [lst 6 bldC (w.B.eraseIdx i)]))).obj s = some (.cells (svC { w with B := w.B.eraseIdx i } (.s (.slice oa w.U.length cap)) o0 o1 o2 p)) := zb _ _ _
 have hx3 := (zg (st := S.setObj pb (.cells [ptr xw])) (x := .cells (zn (svC w (.s (.slice oa w.U.length cap)) o0 o1 o2 p) 6 [lst 6 bldC (w.B.eraseIdx i)])) hxs).trans hx
 have hr3 := hr.set hos (.cells (zn (svC w (.s (.slice oa w.U.length cap)) o0 o1 o2 p) 6 [lst 6 bldC (w.B.eraseIdx i)]))
 have hb3 := (zg (st := S.setObj pb (.cells [ptr xw])) (x := .cells (zn (svC w (.s (.slice oa w.U.length cap)) o0 o1 o2 p) 6 [lst 6 bldC (w.B.eraseIdx i)])) (Ne.symm hbs)).trans hb
 refine ⟨trivial, ?_⟩
 exact ret (h0 he _ (by rw [hW2]; exact ⟨_, o0, o1, o2, p, hx3, hs3, hr3⟩))
theorem yed : kx 5 drE drW := by
 intro F G xw s p w v L o0 o1 o2 c hW hm hn hc hp hk R h h0
 have hx := hW.x (F' := F) (q0 := o0) (q1 := o1) (q2 := o2)
 refine ACalls.of_body (c := cfg 34) zd Tryz.func79 (by rfl) (by rfl) (by rfl) (by rfl) ?_
 refine za (o := (F.un (svS G s w v o0 o1 o2 p)).obj xw) _ hx ?_
 refine bceq (fun c1 => absurd (hk.symm.trans c1) (by decide)) (fun _ => ?_)
 refine bceq (fun c1 => absurd (hk.symm.trans c1) (by decide)) (fun _ => ?_)
 refine bceq (fun c1 => absurd (hk.symm.trans c1) (by decide)) (fun _ => ?_)
 refine bceq (fun c1 => absurd (hk.symm.trans c1) (by decide)) (fun _ => ?_)
 refine bceq (fun _ => ?_) (fun c1 => absurd hk c1)
 refine zly hW (mayF hm) _ (fun S' he => ret (h S' he)) (fun he S' hd => ret (h0 he S' hd))
end Go.Proofs
namespace Go.Proofs
open Go Go.V
end Go.Proofs
namespace Go.Proofs
open Go Go.V
theorem yea (k : Int) : kx k aE aW := by
 intro F G xw s p w v L o0 o1 o2 c hW hm hn hc hp hk R h h0
 rcases yd9 hc with q | q | q | q | q | q | q
 ·obtain ⟨e1, e2⟩ := a1 (w := w) q
  rw [e1] at h h0
  rw [e2] at h0
  exact ycp F G xw s p w v L o0 o1 o2 c hW hm hn hc hp q R h h0
 ·obtain ⟨e1, e2⟩ := a2 (w := w) q
  rw [e1] at h h0
  rw [e2] at h0
  exact yeg F G xw s p w v L o0 o1 o2 c hW hm hn hc hp q R h h0
 ·obtain ⟨e1, e2⟩ := a3 (w := w) q
  rw [e1] at h h0
  rw [e2] at h0
  exact yef F G xw s p w v L o0 o1 o2 c hW hm hn hc hp q R h h0
 ·obtain ⟨e1, e2⟩ := a4 (w := w) q
  rw [e1] at h h0
  rw [e2] at h0
  exact yee F G xw s p w v L o0 o1 o2 c hW hm hn hc hp q R h h0
 ·obtain ⟨e1, e2⟩ := a5 (w := w) q
  rw [e1] at h h0
  rw [e2] at h0
  exact yed F G xw s p w v L o0 o1 o2 c hW hm hn hc hp q R h h0
 ·obtain ⟨e1, e2⟩ := a6 (w := w) q
  rw [e1] at h h0
  rw [e2] at h0
  exact yec F G xw s p w v L o0 o1 o2 c hW hm hn hc hp q R h h0
 ·obtain ⟨e1, e2⟩ := a7 (w := w) q
  rw [e1] at h h0
  rw [e2] at h0
  exact yeb F G xw s p w v L o0 o1 o2 c hW hm hn hc hp q R h h0
/-- Worlds that may be handed on. -/
def smallW (w : Wld) : Prop := (∀ u ∈ w.U, u.pos.ok) ∧ w.G.T.length ≤ 1000000 ∧ w.B.length ≤ 1000000 ∧ w.U.length ≤ 1000000
theorem smallW.fits {w : Wld} (h : smallW w) : w.fits := ⟨by unfold Gnd.fits; have := h.2.1; omega, by have := h.2.2.1; omega, by have := h.2.2.2; omega⟩
end Go.Proofs
namespace Go.Proofs
open Go Go.V
theorem appA (w : Wld) (hw : smallW w) (c : Cmd) (hc : c.fits) (st : Store) (R : AV → Store → Prop) (h : R (.tup [.agg (wldC (doW aE aW w c)), int (doE aE w c)]) st) : ACalls Tryz.prog 21 [.agg (wldC w), .agg (cmdC c)] st R :=
 zbr (yea c.K) w hw.fits hw.1 hw.2.1 hw.2.2.1 hw.2.2.2 c (fun hm => ydv hm) hc rfl st R h
/-- To stop one unit, to send one. -/
def zfv (o id : Int) : Cmd := ⟨o, 0, 3, 0, [id], 0, 0, 0, 0, 0⟩
def zei (o id : Int) : Cmd := ⟨o, 0, 2, 0, [id], 0, 0, 0, 0, 0⟩
def zgj (o id : Int) : Cmd := ⟨o, 0, 5, id, [], 0, 0, 0, 0, 0⟩
theorem zn3 {id : Int} (h : 1 ≤ id ∧ id ≤ 1099511627776) : ve [id] := by
 refine ⟨⟨Nat.le_refl 1, by show 1 ≤ 64; decide⟩, fun j hj => ?_⟩
 have : j = 0 := by simp at hj; omega
 subst this
 exact ⟨h, fun h0 => absurd h0 (by decide)⟩
theorem ybs {o id : Int} (ho : 1 ≤ o ∧ o ≤ 8) (h : 1 ≤ id ∧ id ≤ 1099511627776) : cmdP (zfv o id) :=
 ⟨(Cmd.ok3 rfl).2 (zn3 h), ho, by show 0 ≤ (0 : Int) ∧ (0 : Int) ≤ _; decide, (Cmd.only3 rfl).trans rfl⟩
theorem ycd {o id : Int} (ho : 1 ≤ o ∧ o ≤ 8) (h : 1 ≤ id ∧ id ≤ 1099511627776) : cmdP (zei o id) :=
 ⟨(Cmd.ok2 rfl).2 ⟨zn3 h, by show 0 ≤ (0 : Int) ∧ (0 : Int) ≤ _; decide⟩, ho, by show 0 ≤ (0 : Int) ∧ (0 : Int) ≤ _; decide, (Cmd.only2 rfl).trans rfl⟩
theorem yco {o id : Int} (ho : 1 ≤ o ∧ o ≤ 8) (h : 1 ≤ id ∧ id ≤ 1099511627776) : cmdP (zgj o id) :=
 ⟨(Cmd.ok5 rfl).2 h, ho, by show 0 ≤ (0 : Int) ∧ (0 : Int) ≤ _; decide, (Cmd.only5 rfl).trans rfl⟩
def zfo (w : Wld) (u : Unt) (o : Int) : Int := if o = u.owner then 0 else if w.players < o then 1 else 6
theorem ycw {w : Wld} (hm : mayP w) {i : Nat} (hi : i < w.U.length) (h0 : w.U[i].inn = 0) (o : Int) : askE w o w.U[i].id = if o = w.U[i].owner then 0 else 6 := by
 rw [zd5 (zcs hm.1.2.1 hi rfl) hi, h0]
 by_cases e : w.U[i].owner = o
 ·rw [if_pos e, if_pos rfl, if_pos e.symm]
 ·rw [if_neg e, if_neg (fun h => e h.symm)]
theorem zxo {w : Wld} (hm : mayP w) {i : Nat} (hi : i < w.U.length) (h0 : w.U[i].inn = 0) {o : Int} (ho : 1 ≤ o ∧ o ≤ 8) :
  doE aE w (zfv o w.U[i].id) = zfo w w.U[i] o ∧ doE aE w (zei o w.U[i].id) = zfo w w.U[i] o := by
 have hu := (hm.1.2.2 _ (List.getElem_mem hi)).1.1
 have hnx := hm.1.1.1.2.2
 have hid : 1 ≤ w.U[i].id ∧ w.U[i].id ≤ 1099511627776 := by omega
 have ha := zq hm.1.1.2.1.1
 have hask := ycw hm hi h0 o
 have h1 : allE (askE w o) [w.U[i].id] = askE w o w.U[i].id := by
  unfold allE
  split
  ·rename_i e; rw [e]; rfl
  ·rfl
 unfold zfo
 by_cases hp : w.players < o
 ·rw [zgk (.inr (.inr hp)), zgk (.inr (.inr hp)), if_neg (by omega), if_pos hp]
  exact ⟨rfl, rfl⟩
 ·rw [zfc hm (ybs ho hid) (by show o ≤ _; omega), zfc hm (ycd ho hid) (by show o ≤ _; omega), (a3 rfl).1, (a2 rfl).1, ydg (by show 0 ≤ (0 : Int) ∧ (0 : Int) < _; omega), if_neg hp]
  have e3 : stE w (zfv o w.U[i].id) = allE (askE w o) [w.U[i].id] := rfl
  have e2 : allE (askE w (zei o w.U[i].id).P) (zei o w.U[i].id).U = allE (askE w o) [w.U[i].id] := rfl
  rw [e3, e2, h1, hask]
  exact ⟨rfl, rfl⟩
theorem zya {l : List Bld} (hr : zk9 l) {i : Nat} (hi : i < l.length) : zdy l l[i].id = some i := by
 unfold zdy
 rw [List.findIdx?_eq_some_iff_getElem]
 refine ⟨hi, decide_eq_true rfl, fun j hj => ?_⟩
 simp only [decide_eq_true_eq]
 intro e
 have : ∀ d, (h : j + d + 1 < l.length) → (l[j]'(by omega)).id < (l[j + d + 1]'h).id := by
  intro d
  induction d with
  | zero => intro h; have := hr (j + 1) h (by omega); simpa using this
  | succ d ih =>
   intro h
   have h1 := ih (by omega)
   have h2 := hr (j + (d + 1) + 1) h (by omega)
   simp only [Nat.add_sub_cancel] at h2
   have e9 : j + (d + 1) = j + d + 1 := by omega
   simp only [e9] at h2 ⊢
   omega
 have h9 := this (i - j - 1) (by omega)
 have e9 : j + (i - j - 1) + 1 = i := by omega
 simp only [e9] at h9
 omega
theorem zqn {w : Wld} (hm : mayP w) {i : Nat} (hi : i < w.B.length) {o : Int} (ho : 1 ≤ o ∧ o ≤ w.players) :
  doE aE w (zgj o w.B[i].id) = (if w.B[i].owner = o then 0 else 6) ∧ (w.B[i].owner = o → (doW aE aW w (zgj o w.B[i].id)).B.length = w.B.length - 1) := by
 have hb := ((hm.1.1.2.1.2.1.2.2.1 _ (List.getElem_mem hi)).1)
 unfold bldP at hb
 have hpl := hm.1.1.1.2.1
 have hf := zya hm.1.1.2.1.2.1.2.1 hi
 have hE : doE aE w (zgj o w.B[i].id) = (if w.B[i].owner = o then 0 else 6) := by
  rw [zfc hm (yco (by omega) hb.1) (by show o ≤ _; omega), (a5 rfl).1]
  unfold drE
  rw [show (zgj o w.B[i].id).N = w.B[i].id from rfl, hf]
  dsimp only
  rw [show w.B.getD i bld0 = w.B[i] by simp [List.getD_eq_getElem?_getD, hi]]
  rfl
 refine ⟨hE, fun e => ?_⟩
 rw [if_pos e] at hE
 rw [zln hE, (a5 rfl).2]
 unfold drW
 rw [show (zgj o w.B[i].id).N = w.B[i].id from rfl, hf]
 exact List.length_eraseIdx_of_lt hi
set_option maxRecDepth 20000 in
theorem zdi (n : Int) (st : Store) (R : AV → Store → Prop) (h : ∀ z : Bool, (z = true ↔ n = 0 ∨ n = 1 ∨ n = 2) → R (bool z) st) : ACalls Tryz.prog 27 [int n] st R := by
 refine ACalls.of_body (c := cfg 9) zd Tryz.func27 (by rfl) (by rfl) (by rfl) (by rfl) ?_
 repeat' (first | refine bcd (fun _ => ?_) (fun _ => ?_) | refine ze (fun _ => ?_) (fun _ => ?_) | refine in64 (by omega) ?_ | fail)
 all_goals
  refine ret (h _ ?_)
  simp only [decide_eq_true_eq, decide_eq_false_iff_not, Bool.false_eq_true, false_iff, true_iff, beq_iff_eq, bne_iff_ne, beq_eq_false_iff_ne, ne_eq, reduceCtorEq] at *
  omega
end Go.Proofs
namespace Go.Proofs
open Go Go.V
set_option maxHeartbeats 2000000 in
set_option maxRecDepth 20000 in
theorem zd7 (s : Scr) (hn : ∀ u ∈ s.W.U, u.pos.ok) (hfs : ∀ c ∈ s.L, c.sized) (st : Store) (R : AV → Store → Prop) (h : R (V.bool true) st) : ACalls Tryz.prog 13 [.agg (scrC s)] st R := by
 refine ACalls.of_awp (c := cfg 168) zd Tryz.func13 (by rfl) (by rfl) (by rfl) (by rfl) ?_
 refine AWp.seq (AWp.of_vc zd ?_)
 refine AWp.seq (AWp.of_vc zd ?_)
 refine zh5 s hfs _ _ (fun z hz => ?_)
 refine ze (fun c1 => ret h) (fun c1 => ?_)
 obtain ⟨hng, hl60, hf⟩ := hz c1
 have hng2 := hng
 unfold zh9 at hng2
 have hsm : smallW s.W := ⟨hn, by omega, by omega, by omega⟩
 refine zox s.W hsm.fits hn _ _ (fun y hy => ?_)
 refine yq ?_
 refine ze (fun c2 => ?_) (fun c2 => ret h)
 have hm := hy.1 c2
 have hpl := hm.1.1.1.2.1
 have hnx := hm.1.1.1.2.2
 refine AWp.meetA (σ := Unit) ⟨fun _ => [(1, .bx 1 0)], fun _ => [(1, scrC s)], fun _ st' => st' = st⟩ ?_ ?_
 ·refine AWp.of_vc zd ?_
  refine AWp.loop (σ := Nat) ⟨fun i => [(1, .bx 1 0), (3, .av (int (i : Nat)))], fun _ => [(1, scrC s)], fun i st' => i ≤ s.W.U.length ∧ st' = st, fun i => s.W.U.length - i⟩ zd ?_ ?_
  ·exact ⟨0, trivial, ⟨Nat.zero_le _, rfl⟩, ⟨lr_ _, lr_ _, trivial⟩, ⟨rfl, trivial⟩⟩
  rintro i st' ⟨hi, rfl⟩
  refine ze (fun h1 => ?_) (fun h1 => ⟨(), rfl, ⟨lr_ _, trivial⟩, ⟨rfl, trivial⟩⟩)
  have hlt : i < s.W.U.length := x5 h1
  refine bcd (fun h2 => ?_) (fun h2 => ⟨(), rfl, ⟨lr_ _, trivial⟩, ⟨rfl, trivial⟩⟩)
  refine ⟨i, rfl, za _ (zj hlt) ?_⟩
  have hdec : s.W.U.length - (i + 1) < s.W.U.length - i := by omega
  refine bcne (fun h3 => ?_) (fun h3 => ?_)
  ·refine in64 (by omega) ?_
   exact ⟨i + 1, hdec, ⟨hlt, rfl⟩, ⟨lr_ _, lr_ _, trivial⟩, ⟨rfl, trivial⟩⟩
  refine AWp.loop (σ := Nat) ⟨fun o => [(1, .bx 1 0), (3, .av (int (i : Nat))), (4, .bx 4 0), (5, .av (int (o : Nat)))], fun _ => [(1, scrC s), (4, untC s.W.U[i])], fun o st2 => (1 ≤ o ∧ o ≤ 10) ∧ st2 = st', fun o => 10 - o⟩ zd ?_ ?_
  ·exact ⟨1, trivial, ⟨by decide, rfl⟩, ⟨lr_ _, lr_ _, lr_ _, lr_ _, trivial⟩, ⟨rfl, rfl, trivial⟩⟩
  rintro o st2 ⟨ho, rfl⟩
  refine in64 (by omega) ?_
  refine bcd (fun h4 => ?_) (fun h4 => ?_)
  rotate_left
  ·refine in64 (by omega) ?_
   exact ⟨i + 1, hdec, ⟨hlt, rfl⟩, ⟨lr_ _, lr_ _, trivial⟩, ⟨rfl, trivial⟩⟩
  refine bcd (fun h5 => ?_) (fun h5 => ?_)
  rotate_left
  ·refine in64 (by omega) ?_
   exact ⟨i + 1, hdec, ⟨hlt, rfl⟩, ⟨lr_ _, lr_ _, trivial⟩, ⟨rfl, trivial⟩⟩
  obtain ⟨w1, w2⟩ := zxo hm hlt h3 (o := (o : Int)) (by omega)
  refine bcd (fun h6 => ?_) (fun h6 => ?_)
  ·refine bceq (fun h7 => ?_) (fun h7 => ?_)
   ·have := ((hm.1.2.2 _ (List.getElem_mem hlt)).1.1.2.1).2
    omega
   have hq : zfo s.W s.W.U[i] o = 1 := by unfold zfo; rw [if_neg h7, if_pos h6]
   refine ⟨by decide, ?_⟩
   refine appA s.W hsm (zfv o s.W.U[i].id) (by show 1 ≤ 1000000000000; decide) _ _ ?_
   rw [w1, hq]
   generalize doW aE aW s.W (zfv o s.W.U[i].id) = x1
   refine ⟨by decide, ?_⟩
   refine appA s.W hsm (zei o s.W.U[i].id) (by show 1 ≤ 1000000000000; decide) _ _ ?_
   rw [w2, hq]
   generalize doW aE aW s.W (zei o s.W.U[i].id) = x2
   refine y7 _ _ _ ?_
   refine y7 _ _ _ ?_
   refine in64 (by omega) ?_
   exact ⟨o + 1, (show 10 - (o + 1) < 10 - o by omega), ⟨⟨by omega, by omega⟩, rfl⟩, ⟨lr_ _, lr_ _, lr_ _, lr_ _, trivial⟩, ⟨rfl, rfl, trivial⟩⟩
  refine bceq (fun h7 => ?_) (fun h7 => ?_)
  ·have hq : zfo s.W s.W.U[i] o = 0 := by unfold zfo; rw [if_pos h7]
   refine ⟨by decide, ?_⟩
   refine appA s.W hsm (zfv o s.W.U[i].id) (by show 1 ≤ 1000000000000; decide) _ _ ?_
   rw [w1, hq]
   generalize doW aE aW s.W (zfv o s.W.U[i].id) = x1
   refine ⟨by decide, ?_⟩
   refine appA s.W hsm (zei o s.W.U[i].id) (by show 1 ≤ 1000000000000; decide) _ _ ?_
   rw [w2, hq]
   generalize doW aE aW s.W (zei o s.W.U[i].id) = x2
   refine y7 _ _ _ ?_
   refine y7 _ _ _ ?_
   refine in64 (by omega) ?_
   exact ⟨o + 1, (show 10 - (o + 1) < 10 - o by omega), ⟨⟨by omega, by omega⟩, rfl⟩, ⟨lr_ _, lr_ _, lr_ _, lr_ _, trivial⟩, ⟨rfl, rfl, trivial⟩⟩
  ·have hq : zfo s.W s.W.U[i] o = 6 := by unfold zfo; rw [if_neg h7, if_neg h6]
   refine ⟨by decide, ?_⟩
   refine appA s.W hsm (zfv o s.W.U[i].id) (by show 1 ≤ 1000000000000; decide) _ _ ?_
   rw [w1, hq]
   generalize doW aE aW s.W (zfv o s.W.U[i].id) = x1
   refine ⟨by decide, ?_⟩
   refine appA s.W hsm (zei o s.W.U[i].id) (by show 1 ≤ 1000000000000; decide) _ _ ?_
   rw [w2, hq]
   generalize doW aE aW s.W (zei o s.W.U[i].id) = x2
   refine y7 _ _ _ ?_
   refine y7 _ _ _ ?_
   refine in64 (by omega) ?_
   exact ⟨o + 1, (show 10 - (o + 1) < 10 - o by omega), ⟨⟨by omega, by omega⟩, rfl⟩, ⟨lr_ _, lr_ _, lr_ _, lr_ _, trivial⟩, ⟨rfl, rfl, trivial⟩⟩
 rintro _ st rfl
 refine AWp.of_vc zd ?_
 refine AWp.loop (σ := Nat) ⟨fun i => [(1, .bx 1 0), (11, .av (int (i : Nat)))], fun _ => [(1, scrC s)], fun i st' => i ≤ s.W.B.length ∧ st' = st, fun i => s.W.B.length - i⟩ zd ?_ ?_
 ·exact ⟨0, trivial, ⟨Nat.zero_le _, rfl⟩, ⟨lr_ _, lr_ _, trivial⟩, ⟨rfl, trivial⟩⟩
 rintro i st' ⟨hi, rfl⟩
 refine ze (fun h1 => ?_) (fun h1 => zdi 0 _ _ (fun b hb => ze (fun _ => zbt _ _ (ret h)) (fun e => absurd (hb.2 (.inl rfl)) (by rw [e]; decide))))
 have hlt : i < s.W.B.length := x5 h1
 refine bcd (fun h2 => ?_) (fun h2 => zdi 0 _ _ (fun b hb => ze (fun _ => zbt _ _ (ret h)) (fun e => absurd (hb.2 (.inl rfl)) (by rw [e]; decide))))
 refine ⟨i, rfl, za _ (zj hlt) ?_⟩
 have hdec : s.W.B.length - (i + 1) < s.W.B.length - i := by omega
 refine AWp.loop (σ := Nat) ⟨fun o => [(1, .bx 1 0), (11, .av (int (i : Nat))), (12, .bx 12 0), (13, .av (int (o : Nat)))], fun _ => [(1, scrC s), (12, bldC s.W.B[i])], fun o st2 => (1 ≤ o ∧ o ≤ 10) ∧ st2 = st', fun o => 10 - o⟩ zd ?_ ?_
 ·exact ⟨1, trivial, ⟨by decide, rfl⟩, ⟨lr_ _, lr_ _, lr_ _, lr_ _, trivial⟩, ⟨rfl, rfl, trivial⟩⟩
 rintro o st2 ⟨ho, rfl⟩
 refine bcd (fun h4 => ?_) (fun h4 => ?_)
 rotate_left
 ·refine in64 (by omega) ?_
  exact ⟨i + 1, hdec, ⟨hlt, rfl⟩, ⟨lr_ _, lr_ _, trivial⟩, ⟨rfl, trivial⟩⟩
 obtain ⟨w1, w2⟩ := zqn hm hlt (o := (o : Int)) (by omega)
 refine ACalls.le (ys := [.agg (wldC s.W), .agg (cmdC (zgj o s.W.B[i].id))]) ⟨ar_ _, AV.le_aggL ⟨ar_ _, ar_ _, ar_ _, ar_ _, AV.le_nil 1, ar_ _, ar_ _, ar_ _, ar_ _, ar_ _, trivial⟩, trivial⟩ ?_
 refine appA s.W hsm (zgj o s.W.B[i].id) (by show 0 ≤ 1000000000000; decide) _ _ ?_
 rw [w1]
 generalize doW aE aW s.W (zgj o s.W.B[i].id) = x1 at *
 have next : 10 - (o + 1) < 10 - o := by omega
 refine bceq (fun h5 => ?_) (fun h5 => ?_)
 ·rw [if_pos h5.symm]
  refine y7 _ _ _ ?_
  refine in64 (by rw [zh]; omega) ?_
  refine bcne (fun h6 => absurd (show ((rws bldC x1.B).length : Int) = ((rws bldC s.W.B).length : Int) - 1 by rw [zh, zh, w2 h5.symm]; omega) h6) (fun _ => ?_)
  refine bcne (fun h6 => absurd h5 h6) (fun _ => ?_)
  refine in64 (by omega) ?_
  exact ⟨o + 1, next, ⟨⟨by omega, by omega⟩, rfl⟩, ⟨lr_ _, lr_ _, lr_ _, lr_ _, trivial⟩, ⟨rfl, rfl, trivial⟩⟩
 ·rw [if_neg (Ne.symm h5)]
  refine bcne (fun _ => ?_) (fun h6 => absurd h6 h5)
  refine y7 _ _ _ ?_
  refine in64 (by omega) ?_
  exact ⟨o + 1, next, ⟨⟨by omega, by omega⟩, rfl⟩, ⟨lr_ _, lr_ _, lr_ _, lr_ _, trivial⟩, ⟨rfl, rfl, trivial⟩⟩
end Go.Proofs
