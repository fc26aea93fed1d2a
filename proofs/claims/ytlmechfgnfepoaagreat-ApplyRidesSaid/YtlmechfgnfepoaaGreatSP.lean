/- The ground on which laws of thronglaw23 are proved: contracts of functions and plain lemmas; no condition beyond the row's own. -/
import Derived.Test.YtlmechfgnfepoaaGreatSK
import Derived.Test.YtlmechfgnfepoaaGreatSN
import Derived.Test.YtlmechfgnfepoaaGreatSJ
import Derived.Test.YtlmechfgnfepoaaGreatSO
set_option linter.unusedSimpArgs false
set_option linter.unusedVariables false
namespace Go.Proofs
open Go Go.V
def zerB : List AV := [int 0, int 0, int 0, int 0, int 0, int 0]
theorem zyq (b : Bld) : ∀ y ∈ bldC b, y.one = true := by
 intro y hy
 obtain ⟨x, rfl, h⟩ := zgt b y hy
 exact h
theorem zxm (l : List Bld) : ∀ y ∈ (rws bldC l).flatten, y.one = true := by
 intro y hy
 obtain ⟨r, hr, hy⟩ := List.mem_flatten.1 hy
 obtain ⟨b, _, rfl⟩ := List.mem_map.1 hr
 exact zyq b y hy
set_option maxHeartbeats 1000000 in
theorem zqu {N : Store} {v : AV} {l : List Bld} (hv : RowsQ 6 bldC N v l) (hl : l.length ≤ 256) {i : Nat} (hi : i < l.length) (R : AV → Store → Prop) (h : ∀ v' N', RowsQ 6 bldC N' v' (l.eraseIdx i) → R v' N') : ACalls Tryz.prog 169 [v, int (i : Nat), int ((i : Int) + 1)] N R := by
 rcases hv with (⟨_, hl0⟩ | ⟨b, cap, L, rfl, ho, hc1, hc2, hc3⟩) | ⟨_, _, _, hl0⟩
 ·subst hl0; exact absurd hi (Nat.not_lt_zero _)
 rotate_left
 ·subst hl0; exact absurd hi (Nat.not_lt_zero _)
 refine ACalls.of_body (c := cfg 33) zd Tryz.func169 (by rfl) (by rfl) (by rfl) (by rfl) ?_
 refine zkt (i := i) (j := i + 1) (m := l.length) rfl rfl rfl rfl (by omega) (by omega) hc1 (by omega) ?_
 refine bceq (fun hh => absurd hh (by omega)) (fun _ => ?_)
 refine ADraw.of_sched zd (by rfl) (by rfl) zwh (by rfl) ?_
 refine ⟨0, i, rfl, rfl, Nat.zero_le _, by omega, .inl ⟨by omega, ?_⟩⟩
 by_cases hc : i + 1 < cap
 ·refine ⟨i + 1, l.length, rfl, rfl, by omega, hc1, .inl ⟨hc, ?_⟩⟩
  refine ⟨⟨.inr ⟨_, _, rfl, rfl, zi3 (ie := ti59) (n := i) (m := l.length - (i + 1)) (xs := (rws bldC (l.drop (i + 1))).flatten) rfl ho (by rw [List.length_append, zu zy]; exact hc2) (by omega) (by have := SrcOK.obj (P := Tryz.prog) (k := 6) (m := l.length - (i + 1)) (o := 0 + (i + 1) * 6) (cp := cap - (i + 1)) ho (by rw [List.length_append, zu zy]; omega) (by rw [Nat.zero_add, zfd zy (by omega)]; exact zxm _); rw [Nat.zero_add, zfd zy (by omega)] at this; rw [Nat.zero_add]; exact this) ⟨by show (i + (l.length - (i + 1))) * 48 ≤ _; omega, by omega⟩ (fun _ => ⟨trivial, ?_⟩) (fun hh => by omega)⟩⟩, trivial⟩
  rw [show zn ((rws bldC l).flatten ++ L) (i * ti59.size) (rws bldC (l.drop (i + 1))).flatten = (rws bldC (l.eraseIdx i)).flatten ++ (bldC l[l.length - 1] ++ L) from zcg zy hi L]
  have hel := zim hi
  have ho2 : (N.setObj b (.cells ((rws bldC (l.eraseIdx i)).flatten ++ (bldC l[l.length - 1] ++ L)))).obj b = some (.cells ((rws bldC (l.eraseIdx i)).flatten ++ (bldC l[l.length - 1] ++ L))) := zb _ _ _
  generalize N.setObj b _ = N2 at ho2 ⊢
  refine ⟨⟨trivial, ?_⟩, trivial⟩
  refine ⟨i + (l.length - (i + 1)), l.length, rfl, rfl, by omega, hc1, .inl ⟨by omega, ?_⟩⟩
  refine zec (ie := ti59) (b := b) (off := 0 + (i + (l.length - (i + 1))) * ti59.size) (l := (rws bldC (l.eraseIdx i)).flatten ++ (bldC l[l.length - 1] ++ L)) rfl rfl rfl rfl rfl rfl rfl (by omega) ho2 (by rw [List.length_append, zu zy, hel, List.length_append, zy]; show 0 + (i + (l.length - (i + 1))) * 6 + 6 ≤ _; omega) (by decide) ?_
  have e3 : zn ((rws bldC (l.eraseIdx i)).flatten ++ (bldC l[l.length - 1] ++ L)) (0 + (i + (l.length - (i + 1))) * ti59.size) (ti59.zero.map AV.s) = (rws bldC (l.eraseIdx i)).flatten ++ (zerB ++ L) := by
   have h1 : (rws bldC (l.eraseIdx i)).flatten.length = 0 + (i + (l.length - (i + 1))) * ti59.size := by
    rw [zu zy, hel]
    show _ = 0 + (i + (l.length - (i + 1))) * 6
    omega
   rw [qq h1, List.append_assoc]
   rfl
  rw [e3]
  have e4 : i + (l.length - (i + 1)) = (l.eraseIdx i).length := by omega
  refine ret (h _ _ (.inl (.inr ⟨b, cap, zerB ++ L, by rw [← e4]; rfl, zb _ _ _, by omega, by rw [List.length_append]; show cap * 6 ≤ _ * 6 + (6 + L.length); omega, hc3⟩)))
 ·refine ⟨i + 1, l.length, rfl, rfl, by omega, hc1, .inr ⟨by omega, ?_⟩⟩
  have e1 : l.drop (i + 1) = [] := List.drop_of_length_le (by omega)
  have hsp := zcg zy hi L
  rw [e1] at hsp
  have hsp : zn ((rws bldC l).flatten ++ L) (i * 6) [] = (rws bldC (l.eraseIdx i)).flatten ++ (bldC l[l.length - 1] ++ L) := hsp
  have hsrc : SrcOK Tryz.prog N 6 0 (.s (.slice (some ⟨b, 0, none⟩) 0 0)) [] := by
   have := SrcOK.obj (P := Tryz.prog) (k := 6) (m := 0) (o := 0) (cp := 0) ho (by omega) (fun y hy => by simp at hy)
   simpa using this
  refine ⟨⟨.inr ⟨_, _, rfl, rfl, zi3 (ie := ti59) (n := i) (m := 0) (xs := []) rfl ho (by rw [List.length_append, zu zy]; exact hc2) (by omega) hsrc ⟨by show (i + (0)) * 48 ≤ _; omega, by omega⟩ (fun _ => ⟨trivial, ?_⟩) (fun hh => by omega)⟩⟩, trivial⟩
  rw [show zn ((rws bldC l).flatten ++ L) (i * ti59.size) [] = (rws bldC (l.eraseIdx i)).flatten ++ (bldC l[l.length - 1] ++ L) from hsp]
  have hel := zim hi
  have ho2 : (N.setObj b (.cells ((rws bldC (l.eraseIdx i)).flatten ++ (bldC l[l.length - 1] ++ L)))).obj b = some (.cells ((rws bldC (l.eraseIdx i)).flatten ++ (bldC l[l.length - 1] ++ L))) := zb _ _ _
  generalize N.setObj b _ = N2 at ho2 ⊢
  refine ⟨⟨trivial, ?_⟩, trivial⟩
  refine ⟨i + (0), l.length, rfl, rfl, by omega, hc1, .inl ⟨by omega, ?_⟩⟩
  refine zec (ie := ti59) (b := b) (off := 0 + (i + (0)) * ti59.size) (l := (rws bldC (l.eraseIdx i)).flatten ++ (bldC l[l.length - 1] ++ L)) rfl rfl rfl rfl rfl rfl rfl (by omega) ho2 (by rw [List.length_append, zu zy, hel, List.length_append, zy]; show 0 + (i + (0)) * 6 + 6 ≤ _; omega) (by decide) ?_
  have e3 : zn ((rws bldC (l.eraseIdx i)).flatten ++ (bldC l[l.length - 1] ++ L)) (0 + (i + (0)) * ti59.size) (ti59.zero.map AV.s) = (rws bldC (l.eraseIdx i)).flatten ++ (zerB ++ L) := by
   have h1 : (rws bldC (l.eraseIdx i)).flatten.length = 0 + (i + (0)) * ti59.size := by
    rw [zu zy, hel]
    show _ = 0 + (i + (0)) * 6
    omega
   rw [qq h1, List.append_assoc]
   rfl
  rw [e3]
  have e4 : i + (0) = (l.eraseIdx i).length := by omega
  refine ret (h _ _ (.inl (.inr ⟨b, cap, zerB ++ L, by rw [← e4]; rfl, zb _ _ _, by omega, by rw [List.length_append]; show cap * 6 ≤ _ * 6 + (6 + L.length); omega, hc3⟩)))
end Go.Proofs
namespace Go.Proofs
open Go Go.V
/-- Delete, of a list that the caller alone has: plain from then on. -/
theorem zqt {N S : Store} (hd : Disj N S) {v : AV} {l : List Bld} (hv : RowsQ 6 bldC N v l) (hl : l.length ≤ 256) {i : Nat} (hi : i < l.length) (R : AV → Store → Prop) (h : R (lst 6 bldC (l.eraseIdx i)) S) : ACalls Tryz.prog 169 [v, int (i : Nat), int ((i : Int) + 1)] (N.un S) R := by
 have h1 : ACalls Tryz.prog 169 [v, int (i : Nat), int ((i : Int) + 1)] N fun r S2 => r = lst 6 bldC (l.eraseIdx i) ∧ S2 = Store.empty :=
  ACalls.frozenTo (zqu hv hl hi (fun r N' => RowsQ 6 bldC N' r (l.eraseIdx i)) fun v' N' h => h) fun r N' hr =>
   ⟨_, Store.empty, ⟨rfl, rfl⟩, (fun b x hx => by cases hx), (fun b x hx => by cases hx), fun Oth M w v' sto hx => by
    refine (zdr hr sto hx).mono fun b o hT => ?_
    exact ⟨hT.1, hT.2.resolve_right fun hh => hh rfl⟩⟩
 exact ACalls.frame hd h1 fun r S2 ⟨e, e2⟩ hd2 => by subst e e2; rw [yx]; exact h
theorem zkd (b : Bld) (pb xw s : Nat) (c : Cmd) (fv : AV) (st : Store) (hb : st.obj pb = some (.cells [ptr xw])) (hx : st.obj xw = some (.cells (wkC s c fv))) (R : AV → Store → Prop) (h : R (V.bool (decide (b.id = c.N))) st) : ACalls Tryz.prog 168 ([.agg (bldC b)] ++ [ptr pb]) st R := by
 rw [← beqD] at h
 refine ACalls.of_body (c := cfg 12) zd Tryz.func168 (by rfl) (by rfl) (by rfl) (by rfl) ?_
 refine ADraw.of_sched zd (by rfl) (by rfl) zwi (by rfl) ?_
 refine za (o := st.obj pb) _ hb ?_
 refine za (o := st.obj xw) _ hx ?_
 refine ⟨⟨?_, ?_⟩, trivial⟩
 ·repeat (first | exact trivial | refine ⟨rfl, ?_⟩ | refine ⟨za (o := st.obj pb) _ hb rfl, ?_⟩ | refine ⟨za (o := st.obj xw) _ hx rfl, ?_⟩)
 exact ret h
theorem zyf {w : Wld} {c : Cmd} {i : Nat} (h : zem w.B c.N = some i) (hi : i < w.B.length) : drE w c = if w.B[i].owner = c.P then 0 else 6 := by
 unfold drE
 rw [h]
 simp [List.getD_eq_getElem?_getD, hi]
theorem znf {l : List Bld} {id : Int} {i : Nat} (h : zem l id = some i) : ∃ hi : i < l.length, l[i].id = id := by
 unfold zem at h
 rw [List.findIdx?_eq_some_iff_getElem] at h
 obtain ⟨h1, h2, _⟩ := h
 exact ⟨h1, of_decide_eq_true h2⟩
set_option maxHeartbeats 2000000 in
set_option maxRecDepth 20000 in
theorem zl0 {F G : Store} {xw s p : Nat} {w : Wld} {v : AV} {L : List Ent} {o0 o1 o2 : AV} {c : Cmd} {fv : AV} (hW : Work F G xw s p w v L o0 o1 o2 c fv) (hm : MayF w) (R : AV → Store → Prop)
  (h : ∀ S', drE w c ≠ 0 → R (int (drE w c)) S') (h0 : drE w c = 0 → ∀ S', Done S' xw s c fv (drW w c) → R (int 0) S') : ACalls Tryz.prog 122 [ptr xw] (F.un (svS G s w v o0 o1 o2 p)) R := by
 have hx := hW.x (F' := F) (q0 := o0) (q1 := o1) (q2 := o2)
 have hs := hW.s (F' := F) (q0 := o0) (q1 := o1) (q2 := o2)
 have hr := hW.r (F' := F) (q0 := o0) (q1 := o1) (q2 := o2)
 have hxs := hW.ne
 have hos := hW.os
 have hB := hm.hB
 obtain ⟨oa, cap, e, hget⟩ := hW.S.hu.form
 subst e
 generalize F.un (svS G s w _ o0 o1 o2 p) = S at hx hs hr ⊢
 refine ACalls.of_body (c := cfg 56 [1] []) zd Tryz.func122 (by rfl) (by rfl) (by rfl) (by rfl) ?_
 intro pb hpb
 have hbx : xw ≠ pb := fun e => by
  subst e
  have := hpb.1
  rw [hx] at this
  cases this
 have hbs : s ≠ pb := fun e => by
  subst e
  have := hpb.1
  rw [hs] at this
  cases this
 have hb : (S.setObj pb (.cells [ptr xw])).obj pb = some (.cells [ptr xw]) := zb _ _ _
 have hx := (zg (st := S) (x := .cells [ptr xw]) hbx).trans hx
 have hs := (zg (st := S) (x := .cells [ptr xw]) hbs).trans hs
 have hr := hr.set (wq hr hpb.1) (.cells [ptr xw])
 refine za (o := (S.setObj pb (.cells [ptr xw])).obj pb) _ hb ?_
 refine za (o := (S.setObj pb (.cells [ptr xw])).obj xw) _ hx ?_
 refine za (o := (S.setObj pb (.cells [ptr xw])).obj s) _ hs ?_
 refine zbi w.B (by omega) _ _ (fun b => decide (b.id = c.N)) _ (fun b _ R h => zkd b pb xw s c fv _ hb hx R h) _ ?_
 have hfb : (w.B.findIdx? fun b => decide (b.id = c.N)) = zem w.B c.N := rfl
 rw [hfb]
 refine bcd (fun c1 => ?_) (fun c1 => ?_)
 ·cases hf : zem w.B c.N with
  | some i => rw [hf] at c1; exact absurd c1 (by show ¬ ((i : Int) < 0); omega)
  | none =>
   have he : drE w c = 3 := by unfold drE; rw [hf]
   have := h (S.setObj pb (.cells [ptr xw])) (by rw [he]; decide)
   rw [he] at this
   exact ret this
 cases hf : zem w.B c.N with
 | none => rw [hf] at c1; exact absurd (show (-1 : Int) < 0 by decide) c1
 | some i =>
 obtain ⟨hi, hid⟩ := znf hf
 have he := zyf hf hi
 refine ADraw.of_sched zd (by rfl) (by rfl) zw7 (by rfl) ?_
 refine za (o := (S.setObj pb (.cells [ptr xw])).obj pb) _ hb ?_
 refine za (o := (S.setObj pb (.cells [ptr xw])).obj xw) _ hx ?_
 refine za (o := (S.setObj pb (.cells [ptr xw])).obj s) _ hs ?_
 refine ⟨i, rfl, za _ (zj hi) ?_⟩
 refine za (o := (S.setObj pb (.cells [ptr xw])).obj pb) _ hb ?_
 refine za (o := (S.setObj pb (.cells [ptr xw])).obj xw) _ hx ?_
 refine ⟨⟨?_, ?_⟩, trivial⟩
 ·repeat (first | exact trivial | refine ⟨rfl, ?_⟩ | refine ⟨za (o := (S.setObj pb (.cells [ptr xw])).obj pb) _ hb rfl, ?_⟩ | refine ⟨za (o := (S.setObj pb (.cells [ptr xw])).obj xw) _ hx rfl, ?_⟩ | refine ⟨za (o := (S.setObj pb (.cells [ptr xw])).obj s) _ hs rfl, ?_⟩ | refine ⟨⟨i, rfl, za _ (zj hi) rfl⟩, ?_⟩)
 refine bcne (fun c2 => ?_) (fun c2 => ?_)
 ·rw [if_neg c2] at he
  have := h (S.setObj pb (.cells [ptr xw])) (by rw [he]; decide)
  rw [he] at this
  exact ret this
 rw [if_pos c2] at he
 have hW2 : drW w c = { w with B := w.B.eraseIdx i } := by unfold drW; rw [hf]
 refine ADraw.of_sched zd (by rfl) (by rfl) zw6 (by rfl) ?_
 refine za (o := (S.setObj pb (.cells [ptr xw])).obj pb) _ hb ?_
 refine za (o := (S.setObj pb (.cells [ptr xw])).obj xw) _ hx ?_
 refine za (o := (S.setObj pb (.cells [ptr xw])).obj pb) _ hb ?_
 refine za (o := (S.setObj pb (.cells [ptr xw])).obj xw) _ hx ?_
 refine za (o := (S.setObj pb (.cells [ptr xw])).obj s) _ hs ?_
 refine in64 (by show -9223372036854775808 ≤ ((i : Nat) : Int) + 1 ∧ ((i : Nat) : Int) + 1 ≤ 9223372036854775807; omega) ?_
 refine ⟨zav w.B (by omega) _ _ (fun v2 N hv2 hd => ⟨?_, ?_⟩), trivial⟩
 ·have hb2 : (N.un (S.setObj pb (.cells [ptr xw]))).obj pb = _ := un_r hb
  have hx2 : (N.un (S.setObj pb (.cells [ptr xw]))).obj xw = _ := un_r hx
  have hs2 : (N.un (S.setObj pb (.cells [ptr xw]))).obj s = _ := un_r hs
  repeat (first | exact trivial | refine ⟨rfl, ?_⟩ | refine ⟨za (o := (N.un (S.setObj pb (.cells [ptr xw]))).obj pb) _ hb2 rfl, ?_⟩ | refine ⟨za (o := (N.un (S.setObj pb (.cells [ptr xw]))).obj xw) _ hx2 rfl, ?_⟩ | refine ⟨za (o := (N.un (S.setObj pb (.cells [ptr xw]))).obj s) _ hs2 rfl, ?_⟩)
 refine ⟨zqt hd hv2 (by omega) hi _ ⟨?_, ?_⟩, trivial⟩
 ·repeat (first | exact trivial | refine ⟨rfl, ?_⟩ | refine ⟨za (o := (S.setObj pb (.cells [ptr xw])).obj pb) _ hb rfl, ?_⟩ | refine ⟨za (o := (S.setObj pb (.cells [ptr xw])).obj xw) _ hx rfl, ?_⟩ | refine ⟨za (o := (S.setObj pb (.cells [ptr xw])).obj s) _ hs rfl, ?_⟩)
 refine ⟨?_, trivial⟩
 refine za _ rfl (y3 rfl (qj (v := lst 6 bldC (w.B.eraseIdx i)) rfl rfl rfl rfl ?_))
 refine qk (i := ti25) (v := lst 6 bldC (w.B.eraseIdx i)) (b := s) (o := 6) (l := svC w (.s (.slice oa w.U.length cap)) o0 o1 o2 p) rfl rfl rfl hs (show 6 + 1 ≤ 12 by decide) ?_
 have hs3 : ((S.setObj pb (.cells [ptr xw])).setObj s (.cells (zn (svC w (.s (.slice oa w.U.length cap)) o0 o1 o2 p) 6 [lst 6 bldC (w.B.eraseIdx i)]))).obj s = some (.cells (svC { w with B := w.B.eraseIdx i } (.s (.slice oa w.U.length cap)) o0 o1 o2 p)) := zb _ _ _
 have hx3 := (zg (st := S.setObj pb (.cells [ptr xw])) (x := .cells (zn (svC w (.s (.slice oa w.U.length cap)) o0 o1 o2 p) 6 [lst 6 bldC (w.B.eraseIdx i)])) hxs).trans hx
 have hr3 := hr.set hos (.cells (zn (svC w (.s (.slice oa w.U.length cap)) o0 o1 o2 p) 6 [lst 6 bldC (w.B.eraseIdx i)]))
 have hb3 := (zg (st := S.setObj pb (.cells [ptr xw])) (x := .cells (zn (svC w (.s (.slice oa w.U.length cap)) o0 o1 o2 p) 6 [lst 6 bldC (w.B.eraseIdx i)])) (Ne.symm hbs)).trans hb
 refine ⟨trivial, ?_⟩
 exact ret (h0 he _ (by rw [hW2]; exact ⟨_, o0, o1, o2, p, hx3, hs3, hr3⟩))
theorem yep : vg 5 drE drW := by
 intro F G xw s p w v L o0 o1 o2 c hW hm hn hc hp hk R h h0
 have hx := hW.x (F' := F) (q0 := o0) (q1 := o1) (q2 := o2)
 refine ACalls.of_body (c := cfg 34) zd Tryz.func79 (by rfl) (by rfl) (by rfl) (by rfl) ?_
 refine za (o := (F.un (svS G s w v o0 o1 o2 p)).obj xw) _ hx ?_
 refine bceq (fun c1 => absurd (hk.symm.trans c1) (by decide)) (fun _ => ?_)
 refine bceq (fun c1 => absurd (hk.symm.trans c1) (by decide)) (fun _ => ?_)
 refine bceq (fun c1 => absurd (hk.symm.trans c1) (by decide)) (fun _ => ?_)
 refine bceq (fun c1 => absurd (hk.symm.trans c1) (by decide)) (fun _ => ?_)
 refine bceq (fun _ => ?_) (fun c1 => absurd hk c1)
 refine zl0 hW (mayF hm) _ (fun S' he => ret (h S' he)) (fun he S' hd => ret (h0 he S' hd))
end Go.Proofs
namespace Go.Proofs
open Go Go.V
end Go.Proofs
namespace Go.Proofs
open Go Go.V
theorem yem (k : Int) : vg k aE aW := by
 intro F G xw s p w v L o0 o1 o2 c hW hm hn hc hp hk R h h0
 rcases ydn hc with q | q | q | q | q | q | q
 ·obtain ⟨e1, e2⟩ := a1 (w := w) q
  rw [e1] at h h0
  rw [e2] at h0
  exact ycr F G xw s p w v L o0 o1 o2 c hW hm hn hc hp q R h h0
 ·obtain ⟨e1, e2⟩ := a2 (w := w) q
  rw [e1] at h h0
  rw [e2] at h0
  exact yeu F G xw s p w v L o0 o1 o2 c hW hm hn hc hp q R h h0
 ·obtain ⟨e1, e2⟩ := a3 (w := w) q
  rw [e1] at h h0
  rw [e2] at h0
  exact yer F G xw s p w v L o0 o1 o2 c hW hm hn hc hp q R h h0
 ·obtain ⟨e1, e2⟩ := a4 (w := w) q
  rw [e1] at h h0
  rw [e2] at h0
  exact yeq F G xw s p w v L o0 o1 o2 c hW hm hn hc hp q R h h0
 ·obtain ⟨e1, e2⟩ := a5 (w := w) q
  rw [e1] at h h0
  rw [e2] at h0
  exact yep F G xw s p w v L o0 o1 o2 c hW hm hn hc hp q R h h0
 ·obtain ⟨e1, e2⟩ := a6 (w := w) q
  rw [e1] at h h0
  rw [e2] at h0
  exact yeo F G xw s p w v L o0 o1 o2 c hW hm hn hc hp q R h h0
 ·obtain ⟨e1, e2⟩ := a7 (w := w) q
  rw [e1] at h h0
  rw [e2] at h0
  exact yen F G xw s p w v L o0 o1 o2 c hW hm hn hc hp q R h h0
/-- Worlds that may be handed on. -/
def smallW (w : Wld) : Prop := (∀ u ∈ w.U, u.pos.ok) ∧ w.G.T.length ≤ 1000000 ∧ w.B.length ≤ 1000000 ∧ w.U.length ≤ 1000000
theorem smallW.fits {w : Wld} (h : smallW w) : w.fits := ⟨by unfold Gnd.fits; have := h.2.1; omega, by have := h.2.2.1; omega, by have := h.2.2.2; omega⟩
theorem zl6 {w z : Wld} {c : Cmd} (h : smallW w) (hz : z = doW aE aW w c ∨ z = w00q) : smallW z := by
 rcases hz with rfl | rfl
 ·by_cases he : doE aE w c = 0
  ·rw [zlm he]
   exact ⟨yd4 h.1 he, zzc (zln he).1⟩
  ·rw [zgl he]; exact h
 ·exact ⟨fun u hu => (by cases hu), by decide, by decide, by decide⟩
end Go.Proofs
namespace Go.Proofs
open Go Go.V
theorem appA (w : Wld) (hw : smallW w) (c : Cmd) (hc : c.fits) (st : Store) (R : AV → Store → Prop) (h : R (.tup [.agg (wldC (doW aE aW w c)), int (doE aE w c)]) st) : ACalls Tryz.prog 21 [.agg (wldC w), .agg (cmdC c)] st R :=
 zb0 (yem c.K) w hw.fits hw.1 hw.2.1 hw.2.2.1 hw.2.2.2 c (fun hm => zzc hm) hc rfl st R h
end Go.Proofs
namespace Go.Proofs
open Go Go.V
theorem yd2 (w : Wld) (hw : smallW w) (c : Cmd) (hc : c.fits) (xs : List AV) (hx : leL xs [.agg (wldC w), .agg (cmdC c)]) {e : Int} (he : doEc w c = e) (st : Store) (R : AV → Store → Prop) (h : ∀ x, x = doWc w c → smallW x → R (.tup [.agg (wldC x), int e]) st) : ACalls Tryz.prog 21 xs st R := by
 refine ACalls.le hx (appA w hw c hc st R ?_)
 have hs := zl6 (c := c) hw (.inl rfl)
 rw [yev] at hs ⊢
 rw [ydx, he]
 exact h _ rfl hs
end Go.Proofs
namespace Go.Proofs
open Go Go.V
def goC (w : Wld) : List AV := wldC w ++ [V.bool false]
set_option maxHeartbeats 2000000 in
set_option maxRecDepth 20000 in
theorem y5 (p : Nat) (w : Wld) (hw : smallW w) (c : Cmd) (hc : c.fits) (e : Int) (he : doEc w c = e) (S : Store) (hp : S.obj p = some (.cells (goC w))) (R : AV → Store → Prop) (h : smallW (doWc w c) → ∀ S', S'.obj p = some (.cells (goC (doWc w c))) → R (.tup []) S') : ACalls Tryz.prog 24 [ptr p, .agg (cmdC c), int e] S R := by
 have hbad : e ≠ 0 → doWc w c = w := fun hne => by unfold doWc; rw [if_neg (by rw [he]; exact hne)]
 refine ACalls.of_body (c := cfg 31) zd Tryz.func24 (by rfl) (by rfl) (by rfl) (by rfl) ?_
 refine ADraw.of_sched zd (by rfl) (by rfl) yb9 (by rfl) ?_
 refine za (o := S.obj p) _ hp ?_
 refine ⟨yd2 w hw c hc _ ?_ he _ _ (fun x hx sx => ⟨trivial, ?_⟩), ⟨⟨?_, ⟨yd2 w hw c hc _ ?_ he _ _ (fun x hx sx => ⟨trivial, ?_⟩), trivial⟩⟩, trivial⟩⟩
 ·exact ⟨ar_ _, ar_ _, trivial⟩
 ·refine ⟨⟨(by repeat (first | exact trivial | refine ⟨rfl, ?_⟩ | refine ⟨za (o := S.obj p) _ hp rfl, ?_⟩)), ⟨⟨trivial, ⟨⟨trivial, ?_⟩, trivial⟩⟩, trivial⟩⟩, trivial⟩
  refine jh _ _ _ ?_
  refine bcne (fun h6 => absurd rfl h6) (fun _ => ?_)
  refine jh _ _ _ ?_
  rw [← hx] at h
  refine bceq (fun e0 => ?_) (fun e0 => ?_)
  ·refine jl (i := ti28) (v := .agg (wldC x)) (xs := wldC x) (b := p) (o := 0) (l := goC w) rfl rfl rfl hp (show 0 + 8 ≤ 9 by decide) ?_
   exact ret (h sx _ (zb _ _ _))
  ·exact ret (h sx _ (by rw [hx, hbad e0]; exact hp))
 ·repeat (first | exact trivial | refine ⟨rfl, ?_⟩ | refine ⟨za (o := S.obj p) _ hp rfl, ?_⟩)
 ·exact ⟨ar_ _, ar_ _, trivial⟩
 ·refine ⟨⟨trivial, ⟨⟨trivial, ?_⟩, trivial⟩⟩, trivial⟩
  refine jh _ _ _ ?_
  refine bcne (fun h6 => absurd rfl h6) (fun _ => ?_)
  refine jh _ _ _ ?_
  rw [← hx] at h
  refine bceq (fun e0 => ?_) (fun e0 => ?_)
  ·refine jl (i := ti28) (v := .agg (wldC x)) (xs := wldC x) (b := p) (o := 0) (l := goC w) rfl rfl rfl hp (show 0 + 8 ≤ 9 by decide) ?_
   exact ret (h sx _ (zb _ _ _))
  ·exact ret (h sx _ (by rw [hx, hbad e0]; exact hp))
theorem ku {w : Wld} {c : Cmd} (h : doEc w c ≠ 0) : doWc w c = w := by unfold doWc; rw [if_neg h]
def zlb : List Int := [26, 28, 19, 35, 18]
def go0 : List AV := [int 0, int 2, int 1, int 8, int 8, byts g8.T, .s (.slice none 0 0), .s (.slice none 0 0), V.bool false]
theorem zpw {S : Store} {p : Nat} {x y : AObj} (hp : S.obj p = some x) (h : AObj.le x y) : S.Le (S.setObj p y) :=
 ⟨fun b z hz => by
  by_cases e : b = p
  ·subst e
   rw [zb] at hz
   have := Option.some.inj hz
   subst this
   exact ⟨x, hp, h⟩
  ·rw [zg e] at hz
   exact ⟨z, hz, AObj.le_refl z⟩, fun _ _ h => h⟩
set_option maxHeartbeats 2000000 in
set_option maxRecDepth 20000 in
theorem zeo (s : Scr) : ACalls Tryz.prog 12 [.agg (scrC s)] Store.empty fun r S => r = V.bool true ∧ S = Store.empty := by
 obtain ⟨st, hst⟩ : ∃ st, st = Store.empty := ⟨_, rfl⟩
 rw [← hst]
 have hg8 : gndP g8 := by decide +kernel
 have hs8 : smallW w8 := ⟨fun u hu => (by cases hu), by decide, by decide, by decide⟩
 have fit0 : ∀ c : Cmd, c.U.length ≤ 5 → c.fits := fun c e => by unfold Cmd.fits; omega
 refine ACalls.of_awp (c := cfg 97 [4] []) zd Tryz.func12 (by rfl) (by rfl) (by rfl) (by rfl) ?_
 refine AWp.seq (AWp.of_vc zd ?_)
 refine AWp.seq (AWp.of_vc zd ?_)
 refine kh rfl (it := ti22) (ie := ti5) rfl rfl rfl rfl rfl (n := 64) (by decide) (by decide) (fun b hf => ?_)
 refine AWp.freezeBx (d := 3) (j := 5) (b := b) (n := 64) (cap := 64) (k := 1) (rows := rws u8C g8.T) (pad := []) rfl rfl (zb _ _ _) hf.2 rfl (Nat.le_refl _) ?_ ?_ ?_
 ·intro row hr
  obtain ⟨x, _, rfl⟩ := List.mem_map.1 hr
  rfl
 ·intro row hr y hy
  obtain ⟨x, _, rfl⟩ := List.mem_map.1 hr
  simp [u8C, u8] at hy
  exact ⟨_, hy, rfl⟩
 rw [jr hf.1]
 refine AWp.seq (AWp.of_vc zd ?_)
 intro p hp
 refine jl (i := ti52) (v := .agg go0) (xs := go0) (b := p) (o := 0) (l := _) rfl rfl rfl (zb _ _ _) (show 0 + 9 ≤ 9 by decide) ?_
 generalize hS : (st.setObj p _).setObj p _ = S0
 have hp0 : S0.obj p = some (.cells go0) := by rw [← hS]; exact zb _ _ _
 have hle : AObj.le (.cells go0) (.cells (goC w8)) := AObj.le_cells rfl fun i x y hx hy => by
  match i with
  | 0 => cases hx; cases hy; exact ar_ _
  | 1 => cases hx; cases hy; exact ar_ _
  | 2 => cases hx; cases hy; exact ar_ _
  | 3 => cases hx; cases hy; exact ar_ _
  | 4 => cases hx; cases hy; exact ar_ _
  | 5 => cases hx; cases hy; exact ar_ _
  | 6 => cases hx; cases hy; exact AV.le_nil 6
  | 7 => cases hx; cases hy; exact AV.le_nil 10
  | 8 => cases hx; cases hy; exact ar_ _
  | i + 9 => cases hx
 have hS0 := zpw hp0 hle
 clear hS
 refine AWp.seq (AWp.of_vc zd ?_)
 refine zaw g8 hg8 27 (by decide) _ rfl _ _ ?_
 refine ACalls.le (ys := [ptr p, .agg (cmdC (sp8 1 3 27)), int 0]) ⟨ar_ _, AV.le_aggL ⟨ar_ _, ar_ _, ar_ _, ar_ _, AV.le_nil 1, ar_ _, ar_ _, ar_ _, ar_ _, ar_ _, trivial⟩, ar_ _, trivial⟩ ?_
 refine ACalls.post (st0 := S0.setObj p (.cells (goC w8))) (R := fun r S => r = .tup [] ∧ smallW (wN 0) ∧ S.obj p = some (.cells (goC (wN 0)))) (y5 p w8 hs8 (sp8 1 3 27) (fit0 _ (by decide)) 0 rides0.1 _ (zb _ _ _) _ (fun h1 S' h2 => by rw [rides0.2] at h1 h2; exact ⟨rfl, h1, h2⟩)) hS0 (fun r S1 hr => ⟨r, S1, AV.le_refl r, Store.Le.refl S1, ?_⟩)
 obtain ⟨rfl, hs0, hp1⟩ := hr
 refine AWp.seq (AWp.of_vc zd ?_)
 refine ⟨by decide, ?_⟩
 have hnear : ∀ i, (h : i < 5) → (zlb[i]'h) = ((near8.getD i 0 : Nat) : Int) ∧ near8.getD i 0 < 64 := by decide
 refine AWp.meetA (σ := Unit) ⟨fun _ => [(1, .bx 1 0), (3, .bx 3 0), (4, .av (ptr p))], fun _ => [(1, scrC s), (3, [int 0, int 2, int 1, int 8, int 8, byts g8.T, .s (.slice none 0 0), .s (.slice none 0 0)])], fun _ S => smallW (wN 5) ∧ S.obj p = some (.cells (goC (wN 5)))⟩ ?_ ?_
 ·refine AWp.of_vc zd ?_
  refine AWp.loop (σ := Nat) ⟨fun i => [(1, .bx 1 0), (3, .bx 3 0), (4, .av (ptr p)), (5, .av (ints zlb)), (6, .av (int (i : Nat)))], fun _ => [(1, scrC s), (3, [int 0, int 2, int 1, int 8, int 8, byts g8.T, .s (.slice none 0 0), .s (.slice none 0 0)])], fun i S => i ≤ 5 ∧ smallW (wN i) ∧ S.obj p = some (.cells (goC (wN i))), fun i => 5 - i⟩ zd ?_ ?_
  ·exact ⟨0, trivial, ⟨by decide, hs0, hp1⟩, ⟨lr_ _, lr_ _, lr_ _, lr_ _, lr_ _, trivial⟩, ⟨rfl, rfl, trivial⟩⟩
  rintro i S ⟨hi, hsi, hpi⟩
  refine bcd (fun h1 => ?_) (fun h1 => ?_)
  rotate_left
  ·have : i = 5 := by omega
   subst this
   exact ⟨(), ⟨hsi, hpi⟩, ⟨lr_ _, lr_ _, lr_ _, trivial⟩, ⟨rfl, rfl, trivial⟩⟩
  have hi5 : i < 5 := by omega
  obtain ⟨n1, n2⟩ := hnear i hi5
  obtain ⟨f1, f2⟩ := ydg i hi5
  refine ADraw.of_sched zd (by rfl) (by rfl) yca (by rfl) ?_
  refine ⟨i, rfl, za _ (zj (l := zlb) hi5) ?_⟩
  refine ⟨zaw g8 hg8 (near8.getD i 0) n2 _ n1 _ _ ⟨?_, ?_⟩, trivial⟩
  ·repeat (first | exact trivial | refine ⟨rfl, ?_⟩ | refine ⟨⟨i, rfl, za _ (zj (l := zlb) hi5) rfl⟩, ?_⟩)
  refine ⟨ACalls.le (ys := [ptr p, .agg (cmdC (sp8 1 0 (near8.getD i 0))), int 0]) ⟨ar_ _, AV.le_aggL ⟨ar_ _, ar_ _, ar_ _, ar_ _, AV.le_nil 1, ar_ _, ar_ _, ar_ _, ar_ _, ar_ _, trivial⟩, ar_ _, trivial⟩ (y5 p (wN i) hsi (sp8 1 0 (near8.getD i 0)) (fit0 _ (show 0 ≤ 5 by decide)) 0 f1 _ hpi _ (fun h1 S' h2 => ?_)), trivial⟩
  rw [f2] at h1 h2
  refine ⟨trivial, ?_⟩
  refine in64 (by omega) ?_
  exact ⟨i + 1, (show 5 - (i + 1) < 5 - i by omega), ⟨by omega, h1, h2⟩, ⟨lr_ _, lr_ _, lr_ _, lr_ _, lr_ _, trivial⟩, ⟨rfl, rfl, trivial⟩⟩
 rintro _ S5 ⟨s5, p5⟩
 refine AWp.seq (AWp.of_vc zd ?_)
 refine zaw g8 hg8 36 (by decide) _ rfl _ _ ?_
 refine ACalls.le (ys := [ptr p, .agg (cmdC (sp8 2 0 36)), int 0]) ⟨ar_ _, AV.le_aggL ⟨ar_ _, ar_ _, ar_ _, ar_ _, AV.le_nil 1, ar_ _, ar_ _, ar_ _, ar_ _, ar_ _, trivial⟩, ar_ _, trivial⟩ (y5 p (wN 5) s5 _ (fit0 _ (by decide)) 0 rides2.1 _ p5 _ (fun s6 S6 p6 => ?_))
 rw [rides2.2] at s6 p6
 obtain ⟨e1, e2, e3, e4, e5, e6⟩ := ydf
 obtain ⟨d1, d2, d3, d4⟩ := yde
 refine AWp.seq (AWp.of_vc zd ?_)
 refine ⟨by decide, ?_⟩
 refine y5 p wA s6 (ld8 1 [7]) (fit0 _ (by decide)) 6 e1 _ p6 _ (fun s7 S7 p7 => ?_)
 rw [ku (by rw [e1]; decide)] at s7 p7
 refine AWp.seq (AWp.of_vc zd ?_)
 refine ⟨by decide, ?_⟩
 refine y5 p wA s7 (ld8 2 [3]) (fit0 _ (by decide)) 7 e2 _ p7 _ (fun s8 S8 p8 => ?_)
 rw [ku (by rw [e2]; decide)] at s8 p8
 refine AWp.seq (AWp.of_vc zd ?_)
 refine ⟨by decide, ?_⟩
 refine y5 p wA s8 (ld8 1 [1]) (fit0 _ (by decide)) 7 e3 _ p8 _ (fun s9 S9 p9 => ?_)
 rw [ku (by rw [e3]; decide)] at s9 p9
 refine AWp.seq (AWp.of_vc zd ?_)
 refine ⟨by decide, ?_⟩
 refine y5 p wA s9 (ld8 1 [2, 3, 4, 5, 6]) (fit0 _ (by decide)) 4 e4 _ p9 _ (fun s10 S10 p10 => ?_)
 rw [ku (by rw [e4]; decide)] at s10 p10
 refine AWp.seq (AWp.of_vc zd ?_)
 refine ⟨by decide, ?_⟩
 refine y5 p wA s10 (ld8 1 [2, 3, 4, 5]) (fit0 _ (by decide)) 0 e5 _ p10 _ (fun s11 S11 p11 => ?_)
 rw [e6] at s11 p11
 refine AWp.seq (AWp.of_vc zd ?_)
 refine ⟨by decide, ?_⟩
 refine y5 p wB s11 (ld8 1 [6]) (fit0 _ (by decide)) 4 d1 _ p11 _ (fun s12 S12 p12 => ?_)
 rw [ku (by rw [d1]; decide)] at s12 p12
 refine AWp.seq (AWp.of_vc zd ?_)
 refine ⟨by decide, ?_⟩
 refine y5 p wB s12 mv8 (fit0 _ (by decide)) 9 d2 _ p12 _ (fun s13 S13 p13 => ?_)
 rw [ku (by rw [d2]; decide)] at s13 p13
 refine AWp.seq (AWp.of_vc zd ?_)
 refine ACalls.le (ys := [ptr p, .agg (cmdC (ul8 63)), int 8]) ⟨ar_ _, AV.le_aggL ⟨ar_ _, ar_ _, ar_ _, ar_ _, AV.le_nil 1, ar_ _, ar_ _, ar_ _, ar_ _, ar_ _, trivial⟩, ar_ _, trivial⟩ (y5 p wB s13 _ (fit0 _ (by decide)) 8 d3 _ p13 _ (fun s14 S14 p14 => ?_))
 rw [ku (by rw [d3]; decide)] at s14 p14
 refine AWp.seq (AWp.of_vc zd ?_)
 refine ACalls.le (ys := [ptr p, .agg (cmdC (ul8 29)), int 0]) ⟨ar_ _, AV.le_aggL ⟨ar_ _, ar_ _, ar_ _, ar_ _, AV.le_nil 1, ar_ _, ar_ _, ar_ _, ar_ _, ar_ _, trivial⟩, ar_ _, trivial⟩ (y5 p wB s14 _ (fit0 _ (by decide)) 0 d4 _ p14 _ (fun sF SF pF => ?_))
 obtain ⟨hmF, hiF⟩ := ydd
 generalize doWc wB (ul8 29) = F at *
 refine AWp.seq (AWp.of_vc zd ?_)
 refine za (o := SF.obj p) _ pF ?_
 refine AWp.of_vc zd ?_
 refine AWp.loop (σ := Nat) ⟨fun i => [(1, .bx 1 0), (4, .av (ptr p)), (7, .av (int (i : Nat)))], fun _ => [(1, scrC s)], fun i S => i ≤ F.U.length ∧ S.obj p = some (.cells (goC F)), fun i => F.U.length - i⟩ zd ?_ ?_
 ·exact ⟨0, trivial, ⟨Nat.zero_le _, pF⟩, ⟨lr_ _, lr_ _, lr_ _, trivial⟩, ⟨rfl, trivial⟩⟩
 rintro i S ⟨hi, hp2⟩
 refine za (o := S.obj p) _ hp2 ?_
 refine ze (fun h1 => ?_) (fun h1 => ?_)
 ·have hlt : i < F.U.length := j0 h1
  refine za (o := S.obj p) _ hp2 ?_
  refine ⟨i, rfl, za _ (zj hlt) ?_⟩
  refine bcne (fun h2 => absurd (hiF _ (List.getElem_mem hlt)) h2) (fun _ => ?_)
  refine in64 (by have := sF.2.2.2; omega) ?_
  exact ⟨i + 1, (show F.U.length - (i + 1) < F.U.length - i by omega), ⟨hlt, hp2⟩, ⟨lr_ _, lr_ _, lr_ _, trivial⟩, ⟨rfl, trivial⟩⟩
 refine za (o := S.obj p) _ hp2 ?_
 refine zow F sF.fits sF.1 _ _ (fun z hz => ?_)
 refine ze (fun h2 => ?_) (fun h2 => absurd (hz.2 hmF) (by rw [h2]; decide))
 refine j7 3 (by decide) _ _ ?_
 refine zgy _ _ ?_
 exact k8 (ar_ _) (hasE S) ⟨rfl, hst.symm⟩
theorem zep (s : Scr) (hn : ∀ u ∈ s.W.U, u.pos.ok) (hfs : ∀ c ∈ s.L, c.sized) (st : Store) (R : AV → Store → Prop) (h : R (V.bool true) st) : ACalls Tryz.prog 12 [.agg (scrC s)] st R := by
 rw [← yx st]
 exact ACalls.frame (kw st) (zeo s) fun r S ⟨e, e2⟩ hd => by subst e e2; rw [yx]; exact h
end Go.Proofs
