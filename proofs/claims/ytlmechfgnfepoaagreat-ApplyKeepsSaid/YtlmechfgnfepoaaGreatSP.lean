/- The ground on which laws of thronglaw23 are proved: contracts of functions and plain lemmas; no condition beyond the row's own. -/
import Derived.Test.YtlmechfgnfepoaaGreatSK
import Derived.Test.YtlmechfgnfepoaaGreatSN
import Derived.Test.YtlmechfgnfepoaaGreatSJ
import Derived.Test.YtlmechfgnfepoaaGreatSO
set_option linter.unusedSimpArgs false
set_option linter.unusedVariables false
namespace Go.Proofs
open Go Go.V
def zerB : List AV := [int 0, int 0, int 0, int 0, int 0, int 0]
theorem zzm (b : Bld) : ∀ y ∈ bldC b, y.one = true := by
 intro y hy
 obtain ⟨x, rfl, h⟩ := zhb b y hy
 exact h
theorem zyf (l : List Bld) : ∀ y ∈ (rws bldC l).flatten, y.one = true := by
 intro y hy
 obtain ⟨r, hr, hy⟩ := List.mem_flatten.1 hy
 obtain ⟨b, _, rfl⟩ := List.mem_map.1 hr
 exact zzm b y hy
set_option maxHeartbeats 1000000 in
theorem zrl {N : Store} {v : AV} {l : List Bld} (hv : RowsQ 6 bldC N v l) (hl : l.length ≤ 256) {i : Nat} (hi : i < l.length) (R : AV → Store → Prop) (h : ∀ v' N', RowsQ 6 bldC N' v' (l.eraseIdx i) → R v' N') : ACalls Tryz.prog 169 [v, int (i : Nat), int ((i : Int) + 1)] N R := by
 rcases hv with (⟨_, hl0⟩ | ⟨b, cap, L, rfl, ho, hc1, hc2, hc3⟩) | ⟨_, _, _, hl0⟩
 ·subst hl0; exact absurd hi (Nat.not_lt_zero _)
 rotate_left
 ·subst hl0; exact absurd hi (Nat.not_lt_zero _)
 refine ACalls.of_body (c := cfg 33) zd Tryz.func169 (by rfl) (by rfl) (by rfl) (by rfl) ?_
 refine zlh (i := i) (j := i + 1) (m := l.length) rfl rfl rfl rfl (by omega) (by omega) hc1 (by omega) ?_
 refine bceq (fun hh => absurd hh (by omega)) (fun _ => ?_)
 refine ADraw.of_sched zd (by rfl) (by rfl) zw8 (by rfl) ?_
 refine ⟨0, i, rfl, rfl, Nat.zero_le _, by omega, .inl ⟨by omega, ?_⟩⟩
 by_cases hc : i + 1 < cap
 ·refine ⟨i + 1, l.length, rfl, rfl, by omega, hc1, .inl ⟨hc, ?_⟩⟩
  refine ⟨⟨.inr ⟨_, _, rfl, rfl, zjr (ie := ti59) (n := i) (m := l.length - (i + 1)) (xs := (rws bldC (l.drop (i + 1))).flatten) rfl ho (by rw [List.length_append, zu zz]; exact hc2) (by omega) (by have := SrcOK.obj (P := Tryz.prog) (k := 6) (m := l.length - (i + 1)) (o := 0 + (i + 1) * 6) (cp := cap - (i + 1)) ho (by rw [List.length_append, zu zz]; omega) (by rw [Nat.zero_add, zfx zz (by omega)]; exact zyf _); rw [Nat.zero_add, zfx zz (by omega)] at this; rw [Nat.zero_add]; exact this) ⟨by show (i + (l.length - (i + 1))) * 48 ≤ _; omega, by omega⟩ (fun _ => ⟨trivial, ?_⟩) (fun hh => by omega)⟩⟩, trivial⟩
  rw [show zn ((rws bldC l).flatten ++ L) (i * ti59.size) (rws bldC (l.drop (i + 1))).flatten = (rws bldC (l.eraseIdx i)).flatten ++ (bldC l[l.length - 1] ++ L) from zcl zz hi L]
  have hel := zi6 hi
  have ho2 : (N.setObj b (.cells ((rws bldC (l.eraseIdx i)).flatten ++ (bldC l[l.length - 1] ++ L)))).obj b = some (.cells ((rws bldC (l.eraseIdx i)).flatten ++ (bldC l[l.length - 1] ++ L))) := zb _ _ _
  generalize N.setObj b _ = N2 at ho2 ⊢
  refine ⟨⟨trivial, ?_⟩, trivial⟩
  refine ⟨i + (l.length - (i + 1)), l.length, rfl, rfl, by omega, hc1, .inl ⟨by omega, ?_⟩⟩
  refine zeu (ie := ti59) (b := b) (off := 0 + (i + (l.length - (i + 1))) * ti59.size) (l := (rws bldC (l.eraseIdx i)).flatten ++ (bldC l[l.length - 1] ++ L)) rfl rfl rfl rfl rfl rfl rfl (by omega) ho2 (by rw [List.length_append, zu zz, hel, List.length_append, zz]; show 0 + (i + (l.length - (i + 1))) * 6 + 6 ≤ _; omega) (by decide) ?_
  have e3 : zn ((rws bldC (l.eraseIdx i)).flatten ++ (bldC l[l.length - 1] ++ L)) (0 + (i + (l.length - (i + 1))) * ti59.size) (ti59.zero.map AV.s) = (rws bldC (l.eraseIdx i)).flatten ++ (zerB ++ L) := by
   have h1 : (rws bldC (l.eraseIdx i)).flatten.length = 0 + (i + (l.length - (i + 1))) * ti59.size := by
    rw [zu zz, hel]
    show _ = 0 + (i + (l.length - (i + 1))) * 6
    omega
   rw [qr h1, List.append_assoc]
   rfl
  rw [e3]
  have e4 : i + (l.length - (i + 1)) = (l.eraseIdx i).length := by omega
  refine ret (h _ _ (.inl (.inr ⟨b, cap, zerB ++ L, by rw [← e4]; rfl, zb _ _ _, by omega, by rw [List.length_append]; show cap * 6 ≤ _ * 6 + (6 + L.length); omega, hc3⟩)))
 ·refine ⟨i + 1, l.length, rfl, rfl, by omega, hc1, .inr ⟨by omega, ?_⟩⟩
  have e1 : l.drop (i + 1) = [] := List.drop_of_length_le (by omega)
  have hsp := zcl zz hi L
  rw [e1] at hsp
  have hsp : zn ((rws bldC l).flatten ++ L) (i * 6) [] = (rws bldC (l.eraseIdx i)).flatten ++ (bldC l[l.length - 1] ++ L) := hsp
  have hsrc : SrcOK Tryz.prog N 6 0 (.s (.slice (some ⟨b, 0, none⟩) 0 0)) [] := by
   have := SrcOK.obj (P := Tryz.prog) (k := 6) (m := 0) (o := 0) (cp := 0) ho (by omega) (fun y hy => by simp at hy)
   simpa using this
  refine ⟨⟨.inr ⟨_, _, rfl, rfl, zjr (ie := ti59) (n := i) (m := 0) (xs := []) rfl ho (by rw [List.length_append, zu zz]; exact hc2) (by omega) hsrc ⟨by show (i + (0)) * 48 ≤ _; omega, by omega⟩ (fun _ => ⟨trivial, ?_⟩) (fun hh => by omega)⟩⟩, trivial⟩
  rw [show zn ((rws bldC l).flatten ++ L) (i * ti59.size) [] = (rws bldC (l.eraseIdx i)).flatten ++ (bldC l[l.length - 1] ++ L) from hsp]
  have hel := zi6 hi
  have ho2 : (N.setObj b (.cells ((rws bldC (l.eraseIdx i)).flatten ++ (bldC l[l.length - 1] ++ L)))).obj b = some (.cells ((rws bldC (l.eraseIdx i)).flatten ++ (bldC l[l.length - 1] ++ L))) := zb _ _ _
  generalize N.setObj b _ = N2 at ho2 ⊢
  refine ⟨⟨trivial, ?_⟩, trivial⟩
  refine ⟨i + (0), l.length, rfl, rfl, by omega, hc1, .inl ⟨by omega, ?_⟩⟩
  refine zeu (ie := ti59) (b := b) (off := 0 + (i + (0)) * ti59.size) (l := (rws bldC (l.eraseIdx i)).flatten ++ (bldC l[l.length - 1] ++ L)) rfl rfl rfl rfl rfl rfl rfl (by omega) ho2 (by rw [List.length_append, zu zz, hel, List.length_append, zz]; show 0 + (i + (0)) * 6 + 6 ≤ _; omega) (by decide) ?_
  have e3 : zn ((rws bldC (l.eraseIdx i)).flatten ++ (bldC l[l.length - 1] ++ L)) (0 + (i + (0)) * ti59.size) (ti59.zero.map AV.s) = (rws bldC (l.eraseIdx i)).flatten ++ (zerB ++ L) := by
   have h1 : (rws bldC (l.eraseIdx i)).flatten.length = 0 + (i + (0)) * ti59.size := by
    rw [zu zz, hel]
    show _ = 0 + (i + (0)) * 6
    omega
   rw [qr h1, List.append_assoc]
   rfl
  rw [e3]
  have e4 : i + (0) = (l.eraseIdx i).length := by omega
  refine ret (h _ _ (.inl (.inr ⟨b, cap, zerB ++ L, by rw [← e4]; rfl, zb _ _ _, by omega, by rw [List.length_append]; show cap * 6 ≤ _ * 6 + (6 + L.length); omega, hc3⟩)))
end Go.Proofs
namespace Go.Proofs
open Go Go.V
/-- Delete, of a list that the caller alone has: plain from then on. -/
theorem zrk {N S : Store} (hd : Disj N S) {v : AV} {l : List Bld} (hv : RowsQ 6 bldC N v l) (hl : l.length ≤ 256) {i : Nat} (hi : i < l.length) (R : AV → Store → Prop) (h : R (lst 6 bldC (l.eraseIdx i)) S) : ACalls Tryz.prog 169 [v, int (i : Nat), int ((i : Int) + 1)] (N.un S) R := by
 have h1 : ACalls Tryz.prog 169 [v, int (i : Nat), int ((i : Int) + 1)] N fun r S2 => r = lst 6 bldC (l.eraseIdx i) ∧ S2 = Store.empty :=
  ACalls.frozenTo (zrl hv hl hi (fun r N' => RowsQ 6 bldC N' r (l.eraseIdx i)) fun v' N' h => h) fun r N' hr =>
   ⟨_, Store.empty, ⟨rfl, rfl⟩, (fun b x hx => by cases hx), (fun b x hx => by cases hx), fun Oth M w v' sto hx => by
    refine (zd6 hr sto hx).mono fun b o hT => ?_
    exact ⟨hT.1, hT.2.resolve_right fun hh => hh rfl⟩⟩
 exact ACalls.frame hd h1 fun r S2 ⟨e, e2⟩ hd2 => by subst e e2; rw [qd]; exact h
theorem zk1 (b : Bld) (pb xw s : Nat) (c : Cmd) (fv : AV) (st : Store) (hb : st.obj pb = some (.cells [ptr xw])) (hx : st.obj xw = some (.cells (wkC s c fv))) (R : AV → Store → Prop) (h : R (V.bool (decide (b.id = c.N))) st) : ACalls Tryz.prog 168 ([.agg (bldC b)] ++ [ptr pb]) st R := by
 rw [← beqD] at h
 refine ACalls.of_body (c := cfg 12) zd Tryz.func168 (by rfl) (by rfl) (by rfl) (by rfl) ?_
 refine ADraw.of_sched zd (by rfl) (by rfl) zw9 (by rfl) ?_
 refine za (o := st.obj pb) _ hb ?_
 refine za (o := st.obj xw) _ hx ?_
 refine ⟨⟨?_, ?_⟩, trivial⟩
 ·repeat (first | exact trivial | refine ⟨rfl, ?_⟩ | refine ⟨za (o := st.obj pb) _ hb rfl, ?_⟩ | refine ⟨za (o := st.obj xw) _ hx rfl, ?_⟩)
 exact ret h
theorem zza {w : Wld} {c : Cmd} {i : Nat} (h : zcx w.B c.N = some i) (hi : i < w.B.length) : drE w c = if w.B[i].owner = c.P then 0 else 6 := by
 unfold drE
 rw [h]
 simp [List.getD_eq_getElem?_getD, hi]
theorem zn4 {l : List Bld} {id : Int} {i : Nat} (h : zcx l id = some i) : ∃ hi : i < l.length, l[i].id = id := by
 unfold zcx at h
 rw [List.findIdx?_eq_some_iff_getElem] at h
 obtain ⟨h1, h2, _⟩ := h
 exact ⟨h1, of_decide_eq_true h2⟩
set_option maxHeartbeats 2000000 in
set_option maxRecDepth 20000 in
theorem zmm {F G : Store} {xw s p : Nat} {w : Wld} {v : AV} {L : List Ent} {o0 o1 o2 : AV} {c : Cmd} {fv : AV} (hW : Work F G xw s p w v L o0 o1 o2 c fv) (hm : MayF w) (R : AV → Store → Prop)
  (h : ∀ S', drE w c ≠ 0 → R (int (drE w c)) S') (h0 : drE w c = 0 → ∀ S', Done S' xw s c fv (drW w c) → R (int 0) S') : ACalls Tryz.prog 122 [ptr xw] (F.un (svS G s w v o0 o1 o2 p)) R := by
 have hx := hW.x (F' := F) (q0 := o0) (q1 := o1) (q2 := o2)
 have hs := hW.s (F' := F) (q0 := o0) (q1 := o1) (q2 := o2)
 have hr := hW.r (F' := F) (q0 := o0) (q1 := o1) (q2 := o2)
 have hxs := hW.ne
 have hos := hW.os
 have hB := hm.hB
 obtain ⟨oa, cap, e, hget⟩ := hW.S.hu.form
 subst e
 generalize F.un (svS G s w _ o0 o1 o2 p) = S at hx hs hr ⊢
 refine ACalls.of_body (c := cfg 56 [1] []) zd Tryz.func122 (by rfl) (by rfl) (by rfl) (by rfl) ?_
 intro pb hpb
 have hbx : xw ≠ pb := fun e => by
  subst e
  have := hpb.1
  rw [hx] at this
  cases this
 have hbs : s ≠ pb := fun e => by
  subst e
  have := hpb.1
  rw [hs] at this
  cases this
 have hb : (S.setObj pb (.cells [ptr xw])).obj pb = some (.cells [ptr xw]) := zb _ _ _
 have hx := (zg (st := S) (x := .cells [ptr xw]) hbx).trans hx
 have hs := (zg (st := S) (x := .cells [ptr xw]) hbs).trans hs
 have hr := hr.set (wl hr hpb.1) (.cells [ptr xw])
 refine za (o := (S.setObj pb (.cells [ptr xw])).obj pb) _ hb ?_
 refine za (o := (S.setObj pb (.cells [ptr xw])).obj xw) _ hx ?_
 refine za (o := (S.setObj pb (.cells [ptr xw])).obj s) _ hs ?_
 refine zbj w.B (by omega) _ _ (fun b => decide (b.id = c.N)) _ (fun b _ R h => zk1 b pb xw s c fv _ hb hx R h) _ ?_
 have hfb : (w.B.findIdx? fun b => decide (b.id = c.N)) = zcx w.B c.N := rfl
 rw [hfb]
 refine bcd (fun c1 => ?_) (fun c1 => ?_)
 ·cases hf : zcx w.B c.N with
  | some i => rw [hf] at c1; exact absurd c1 (by show ¬ ((i : Int) < 0); omega)
  | none =>
   have he : drE w c = 3 := by unfold drE; rw [hf]
   have := h (S.setObj pb (.cells [ptr xw])) (by rw [he]; decide)
   rw [he] at this
   exact ret this
 cases hf : zcx w.B c.N with
 | none => rw [hf] at c1; exact absurd (show (-1 : Int) < 0 by decide) c1
 | some i =>
 obtain ⟨hi, hid⟩ := zn4 hf
 have he := zza hf hi
 refine ADraw.of_sched zd (by rfl) (by rfl) zxy (by rfl) ?_
 refine za (o := (S.setObj pb (.cells [ptr xw])).obj pb) _ hb ?_
 refine za (o := (S.setObj pb (.cells [ptr xw])).obj xw) _ hx ?_
 refine za (o := (S.setObj pb (.cells [ptr xw])).obj s) _ hs ?_
 refine ⟨i, rfl, za _ (zi hi) ?_⟩
 refine za (o := (S.setObj pb (.cells [ptr xw])).obj pb) _ hb ?_
 refine za (o := (S.setObj pb (.cells [ptr xw])).obj xw) _ hx ?_
 refine ⟨⟨?_, ?_⟩, trivial⟩
 ·repeat (first | exact trivial | refine ⟨rfl, ?_⟩ | refine ⟨za (o := (S.setObj pb (.cells [ptr xw])).obj pb) _ hb rfl, ?_⟩ | refine ⟨za (o := (S.setObj pb (.cells [ptr xw])).obj xw) _ hx rfl, ?_⟩ | refine ⟨za (o := (S.setObj pb (.cells [ptr xw])).obj s) _ hs rfl, ?_⟩ | refine ⟨⟨i, rfl, za _ (zi hi) rfl⟩, ?_⟩)
 refine bcne (fun c2 => ?_) (fun c2 => ?_)
 ·rw [if_neg c2] at he
  have := h (S.setObj pb (.cells [ptr xw])) (by rw [he]; decide)
  rw [he] at this
  exact ret this
 rw [if_pos c2] at he
 have hW2 : drW w c = { w with B := w.B.eraseIdx i } := by unfold drW; rw [hf]
 refine ADraw.of_sched zd (by rfl) (by rfl) zxx (by rfl) ?_
 refine za (o := (S.setObj pb (.cells [ptr xw])).obj pb) _ hb ?_
 refine za (o := (S.setObj pb (.cells [ptr xw])).obj xw) _ hx ?_
 refine za (o := (S.setObj pb (.cells [ptr xw])).obj pb) _ hb ?_
 refine za (o := (S.setObj pb (.cells [ptr xw])).obj xw) _ hx ?_
 refine za (o := (S.setObj pb (.cells [ptr xw])).obj s) _ hs ?_
 refine in64 (by show -9223372036854775808 ≤ ((i : Nat) : Int) + 1 ∧ ((i : Nat) : Int) + 1 ≤ 9223372036854775807; omega) ?_
 refine ⟨zar w.B (by omega) _ _ (fun v2 N hv2 hd => ⟨?_, ?_⟩), trivial⟩
 ·have hb2 : (N.un (S.setObj pb (.cells [ptr xw]))).obj pb = _ := un_r hb
  have hx2 : (N.un (S.setObj pb (.cells [ptr xw]))).obj xw = _ := un_r hx
  have hs2 : (N.un (S.setObj pb (.cells [ptr xw]))).obj s = _ := un_r hs
  repeat (first | exact trivial | refine ⟨rfl, ?_⟩ | refine ⟨za (o := (N.un (S.setObj pb (.cells [ptr xw]))).obj pb) _ hb2 rfl, ?_⟩ | refine ⟨za (o := (N.un (S.setObj pb (.cells [ptr xw]))).obj xw) _ hx2 rfl, ?_⟩ | refine ⟨za (o := (N.un (S.setObj pb (.cells [ptr xw]))).obj s) _ hs2 rfl, ?_⟩)
 refine ⟨zrk hd hv2 (by omega) hi _ ⟨?_, ?_⟩, trivial⟩
 ·repeat (first | exact trivial | refine ⟨rfl, ?_⟩ | refine ⟨za (o := (S.setObj pb (.cells [ptr xw])).obj pb) _ hb rfl, ?_⟩ | refine ⟨za (o := (S.setObj pb (.cells [ptr xw])).obj xw) _ hx rfl, ?_⟩ | refine ⟨za (o := (S.setObj pb (.cells [ptr xw])).obj s) _ hs rfl, ?_⟩)
 refine ⟨?_, trivial⟩
 refine za _ rfl (y5 rfl (qk (v := lst 6 bldC (w.B.eraseIdx i)) rfl rfl rfl rfl ?_))
 refine ql (i := ti25) (v := lst 6 bldC (w.B.eraseIdx i)) (b := s) (o := 6) (l := svC w (.s (.slice oa w.U.length cap)) o0 o1 o2 p) rfl rfl rfl hs (show 6 + 1 ≤ 12 by decide) ?_
 have hs3 : ((S.setObj pb (.cells [ptr xw])).setObj s (.cells (zn (svC w (.s (.slice oa w.U.length cap)) o0 o1 o2 p) 6 [lst 6 bldC (w.B.eraseIdx i)]))).obj s = some (.cells (svC { w with B := w.B.eraseIdx i } (.s (.slice oa w.U.length cap)) o0 o1 o2 p)) := zb _ _ _
 have hx3 := (zg (st := S.setObj pb (.cells [ptr xw])) (x := .cells (zn (svC w (.s (.slice oa w.U.length cap)) o0 o1 o2 p) 6 [lst 6 bldC (w.B.eraseIdx i)])) hxs).trans hx
 have hr3 := hr.set hos (.cells (zn (svC w (.s (.slice oa w.U.length cap)) o0 o1 o2 p) 6 [lst 6 bldC (w.B.eraseIdx i)]))
 have hb3 := (zg (st := S.setObj pb (.cells [ptr xw])) (x := .cells (zn (svC w (.s (.slice oa w.U.length cap)) o0 o1 o2 p) 6 [lst 6 bldC (w.B.eraseIdx i)])) (Ne.symm hbs)).trans hb
 refine ⟨trivial, ?_⟩
 exact ret (h0 he _ (by rw [hW2]; exact ⟨_, o0, o1, o2, p, hx3, hs3, hr3⟩))
theorem yfj : k8 5 drE drW := by
 intro F G xw s p w v L o0 o1 o2 c hW hm hn hc hp hk R h h0
 have hx := hW.x (F' := F) (q0 := o0) (q1 := o1) (q2 := o2)
 refine ACalls.of_body (c := cfg 34) zd Tryz.func79 (by rfl) (by rfl) (by rfl) (by rfl) ?_
 refine za (o := (F.un (svS G s w v o0 o1 o2 p)).obj xw) _ hx ?_
 refine bceq (fun c1 => absurd (hk.symm.trans c1) (by decide)) (fun _ => ?_)
 refine bceq (fun c1 => absurd (hk.symm.trans c1) (by decide)) (fun _ => ?_)
 refine bceq (fun c1 => absurd (hk.symm.trans c1) (by decide)) (fun _ => ?_)
 refine bceq (fun c1 => absurd (hk.symm.trans c1) (by decide)) (fun _ => ?_)
 refine bceq (fun _ => ?_) (fun c1 => absurd hk c1)
 refine zmm hW (mayF hm) _ (fun S' he => ret (h S' he)) (fun he S' hd => ret (h0 he S' hd))
end Go.Proofs
namespace Go.Proofs
open Go Go.V
end Go.Proofs
namespace Go.Proofs
open Go Go.V
theorem yfg (k : Int) : k8 k aE aW := by
 intro F G xw s p w v L o0 o1 o2 c hW hm hn hc hp hk R h h0
 rcases zyx hc with q | q | q | q | q | q | q
 ·obtain ⟨e1, e2⟩ := a1 (w := w) q
  rw [e1] at h h0
  rw [e2] at h0
  exact yds F G xw s p w v L o0 o1 o2 c hW hm hn hc hp q R h h0
 ·obtain ⟨e1, e2⟩ := a2 (w := w) q
  rw [e1] at h h0
  rw [e2] at h0
  exact yfm F G xw s p w v L o0 o1 o2 c hW hm hn hc hp q R h h0
 ·obtain ⟨e1, e2⟩ := a3 (w := w) q
  rw [e1] at h h0
  rw [e2] at h0
  exact yfl F G xw s p w v L o0 o1 o2 c hW hm hn hc hp q R h h0
 ·obtain ⟨e1, e2⟩ := a4 (w := w) q
  rw [e1] at h h0
  rw [e2] at h0
  exact yfk F G xw s p w v L o0 o1 o2 c hW hm hn hc hp q R h h0
 ·obtain ⟨e1, e2⟩ := a5 (w := w) q
  rw [e1] at h h0
  rw [e2] at h0
  exact yfj F G xw s p w v L o0 o1 o2 c hW hm hn hc hp q R h h0
 ·obtain ⟨e1, e2⟩ := a6 (w := w) q
  rw [e1] at h h0
  rw [e2] at h0
  exact yfi F G xw s p w v L o0 o1 o2 c hW hm hn hc hp q R h h0
 ·obtain ⟨e1, e2⟩ := a7 (w := w) q
  rw [e1] at h h0
  rw [e2] at h0
  exact yfh F G xw s p w v L o0 o1 o2 c hW hm hn hc hp q R h h0
/-- Worlds that may be handed on. -/
def smallW (w : Wld) : Prop := (∀ u ∈ w.U, u.pos.ok) ∧ w.G.T.length ≤ 1000000 ∧ w.B.length ≤ 1000000 ∧ w.U.length ≤ 1000000
theorem smallW.fits {w : Wld} (h : smallW w) : w.fits := ⟨by unfold Gnd.fits; have := h.2.1; omega, by have := h.2.2.1; omega, by have := h.2.2.2; omega⟩
theorem zms {w z : Wld} {c : Cmd} (h : smallW w) (hz : z = doW aE aW w c ∨ z = w00q) : smallW z := by
 rcases hz with rfl | rfl
 ·by_cases he : doE aE w c = 0
  ·rw [zja he]
   exact ⟨ye3 h.1 he, yac (zda he).1⟩
  ·rw [zei he]; exact h
 ·exact ⟨fun u hu => (by cases hu), by decide, by decide, by decide⟩
end Go.Proofs
namespace Go.Proofs
open Go Go.V
theorem appA (w : Wld) (hw : smallW w) (c : Cmd) (hc : c.fits) (st : Store) (R : AV → Store → Prop) (h : R (.tup [.agg (wldC (doW aE aW w c)), int (doE aE w c)]) st) : ACalls Tryz.prog 21 [.agg (wldC w), .agg (cmdC c)] st R :=
 zb4 (yfg c.K) w hw.fits hw.1 hw.2.1 hw.2.2.1 hw.2.2.2 c (fun hm => yac hm) hc rfl st R h
end Go.Proofs
namespace Go.Proofs
open Go Go.V
set_option maxHeartbeats 2000000 in
set_option maxRecDepth 20000 in
theorem ze8 (s : Scr) (hn : ∀ u ∈ s.W.U, u.pos.ok) (hfs : ∀ c ∈ s.L, c.sized) (st : Store) (R : AV → Store → Prop) (h : R (V.bool true) st) : ACalls Tryz.prog 11 [.agg (scrC s)] st R := by
 refine ACalls.of_body (c := cfg 138) zd Tryz.func11 (by rfl) (by rfl) (by rfl) (by rfl) ?_
 refine zir s hfs _ _ (fun z hz => ?_)
 refine ze (fun c1 => ret h) (fun c1 => ?_)
 obtain ⟨hng, hl60, hf⟩ := hz c1
 have hng2 := hng
 unfold ziv at hng2
 have hsm : smallW s.W := ⟨hn, by omega, by omega, by omega⟩
 refine zh3 s.W hsm.fits hn _ _ (fun y hy => ?_)
 refine yr ?_
 refine ze (fun c2 => ?_) (fun c2 => ret h)
 have hm := hy.1 c2
 refine zac s.W hsm.fits _ _ ?_
 refine AWp.loop (σ := Nat × Wld) ⟨fun x => [(1, .bx 1 0), (3, .bx 3 0), (4, .av (int (x.1 : Nat)))], fun x => [(1, scrC s), (3, wldC x.2)], fun x st' => x.1 ≤ s.L.length ∧ st' = st ∧ smallW x.2 ∧ mayP x.2, fun x => s.L.length - x.1⟩ zd ?_ ?_
 ·exact ⟨(0, s.W), trivial, ⟨Nat.zero_le _, rfl, hsm, hm⟩, ⟨lr_ _, lr_ _, lr_ _, trivial⟩, ⟨rfl, rfl, trivial⟩⟩
 rintro ⟨i, w⟩ st' ⟨hi, rfl, hw, hmw⟩
 dsimp only at hi hw hmw ⊢
 refine ze (fun h1 => ?_) (fun h1 => zb6 _ _ (ret h))
 have hlt : i < s.L.length := qs h1
 refine bcd (fun h2 => ?_) (fun h2 => zb6 _ _ (ret h))
 have ap := fun st2 R2 => appA w hw s.L[i] (hf _ (List.getElem_mem hlt)) st2 R2
 have hs2 := zms (c := s.L[i]) hw (.inl rfl)
 have hbad : doE aE w s.L[i] ≠ 0 → doW aE aW w s.L[i] = w := zei
 have hgood : doE aE w s.L[i] = 0 → mayP (doW aE aW w s.L[i]) ∧ ydj w (doW aE aW w s.L[i]) := fun e => by rw [zja e]; exact ⟨yel e, ydi e⟩
 generalize doW aE aW w s.L[i] = x at *
 generalize doE aE w s.L[i] = e at *
 refine ADraw.of_sched zd (by rfl) (by rfl) yc8 (by rfl) ?_
 refine ⟨i, rfl, za _ (zi hlt) ?_⟩
 refine ⟨ap _ _ ⟨trivial, ?_⟩, ⟨⟨?_, ⟨ap _ _ ⟨trivial, ?_⟩, trivial⟩⟩, trivial⟩⟩
 rotate_left
 ·repeat (first | exact trivial | refine ⟨rfl, ?_⟩ | refine ⟨⟨i, rfl, za _ (zi hlt) rfl⟩, ?_⟩)
 rotate_left
 refine ⟨⟨(by repeat (first | exact trivial | refine ⟨rfl, ?_⟩ | refine ⟨⟨i, rfl, za _ (zi hlt) rfl⟩, ?_⟩)), ⟨⟨trivial, ⟨⟨trivial, ?_⟩, trivial⟩⟩, trivial⟩⟩, trivial⟩
 rotate_left
 refine ⟨⟨trivial, ⟨⟨trivial, ?_⟩, trivial⟩⟩, trivial⟩
 all_goals
  refine zbr _ _ _ ?_
  refine bcne (fun e0 => ?_) (fun e0 => ?_)
  ·refine in64 (by omega) ?_
   exact ⟨(i + 1, w), (show s.L.length - (i + 1) < s.L.length - i by omega), ⟨hlt, rfl, hw, hmw⟩, ⟨lr_ _, lr_ _, lr_ _, trivial⟩, ⟨rfl, rfl, trivial⟩⟩
  obtain ⟨hmx, hkx⟩ := hgood e0
  obtain ⟨hk1, hk2, hk3, hk4, hk5, hk6⟩ := hkx
  refine zh3 x hs2.fits hs2.1 _ _ (fun y2 hy2 => ?_)
  refine yr ?_
  refine ze (fun c3 => ?_) (fun c3 => absurd (hy2.2 hmx) (by simp [c3]))
  refine bcd (fun c4 => absurd c4 (by omega)) (fun c4 => ?_)
  refine bcd (fun c5 => ?_) (fun c5 => ?_)
  ·exfalso; simp [rws] at c5; omega
  refine bcne (fun c6 => absurd hk2 c6) (fun c6 => ?_)
  refine zg2 x.G w.G hs2.fits.1 _ _ ?_
  refine yr ?_
  refine ze (fun c7 => ?_) (fun c7 => absurd hk3 (by simpa using c7))
  refine AWp.loop (σ := Nat) ⟨fun k => [(1, .bx 1 0), (3, .bx 3 0), (4, .av (int (i : Nat))), (5, .bx 5 0), (7, .av (int (k : Nat)))], fun _ => [(1, scrC s), (3, wldC w), (5, wldC x)], fun k st2 => k ≤ w.U.length ∧ st2 = st', fun k => w.U.length - k⟩ zd ?_ ?_
  ·exact ⟨0, trivial, ⟨Nat.zero_le _, rfl⟩, ⟨lr_ _, lr_ _, lr_ _, lr_ _, lr_ _, trivial⟩, ⟨rfl, rfl, rfl, trivial⟩⟩
  rintro k st2 ⟨hk, rfl⟩
  dsimp only at hk ⊢
  refine ze (fun d1 => ?_) (fun d1 => ?_)
  ·have hkl : k < w.U.length := qs d1
   have hkx : k < x.U.length := by omega
   obtain ⟨m1, m2, m3⟩ := hk5 k _ _ (List.getElem?_eq_getElem hkl) (List.getElem?_eq_getElem hkx)
   refine ADraw.of_sched zd (by rfl) (by rfl) zx4 (by rfl) ?_
   refine ⟨k, rfl, za _ (zi hkl) ?_⟩
   refine ⟨k, rfl, za _ (zi hkx) ?_⟩
   refine ⟨⟨?_, ⟨⟨?_, ⟨⟨?_, ⟨⟨trivial, ?_⟩, trivial⟩⟩, trivial⟩⟩, trivial⟩⟩, ⟨⟨?_, ⟨⟨?_, ⟨⟨?_, ⟨⟨trivial, ?_⟩, trivial⟩⟩, trivial⟩⟩, trivial⟩⟩, trivial⟩⟩
   rotate_left 3
   rotate_left 1
   iterate 3 (
    ·repeat (first | exact trivial | refine ⟨rfl, ?_⟩ | refine ⟨⟨k, rfl, za _ (zi hkl) rfl⟩, ?_⟩ | refine ⟨⟨k, rfl, za _ (zi hkx) rfl⟩, ?_⟩))
   rotate_left 1
   iterate 3 (
    ·repeat (first | exact trivial | refine ⟨rfl, ?_⟩ | refine ⟨⟨k, rfl, za _ (zi hkl) rfl⟩, ?_⟩ | refine ⟨⟨k, rfl, za _ (zi hkx) rfl⟩, ?_⟩))
   all_goals
    refine bcne (fun q => absurd m1 q) (fun q => ?_)
    refine bcne (fun q => absurd m2 q) (fun q => ?_)
    refine bcne (fun q => absurd m3 q) (fun q => ?_)
    refine in64 (by have := hw.2.2.2; omega) ?_
    exact ⟨k + 1, (show w.U.length - (k + 1) < w.U.length - k by omega), ⟨hkl, rfl⟩, ⟨lr_ _, lr_ _, lr_ _, lr_ _, lr_ _, trivial⟩, ⟨rfl, rfl, rfl, trivial⟩⟩
  have hrl : ∀ l : List Unt, (rws untC l).length = l.length := fun l => by simp [rws]
  refine AWp.loop (σ := Nat) ⟨fun k => [(1, .bx 1 0), (3, .bx 3 0), (4, .av (int (i : Nat))), (5, .bx 5 0), (10, .av (int (k : Nat)))], fun _ => [(1, scrC s), (3, wldC w), (5, wldC x)], fun k st3 => w.U.length ≤ k ∧ k ≤ x.U.length ∧ st3 = st2, fun k => x.U.length - k⟩ zd ?_ ?_
  ·exact ⟨(rws untC w.U).length, trivial, ⟨Nat.le_of_eq (hrl _).symm, (hrl _).symm ▸ hk4, rfl⟩, ⟨lr_ _, lr_ _, lr_ _, lr_ _, lr_ _, trivial⟩, ⟨rfl, rfl, rfl, trivial⟩⟩
  rintro k st3 ⟨hk, hkx', rfl⟩
  dsimp only at hk hkx' ⊢
  refine ze (fun d1 => ?_) (fun d1 => ?_)
  ·have hkx : k < x.U.length := qs d1
   have m := hk6 k _ hk (List.getElem?_eq_getElem hkx)
   refine ADraw.of_sched zd (by rfl) (by rfl) zx3 (by rfl) ?_
   refine ⟨k, rfl, za _ (zi hkx) ?_⟩
   refine bcd (fun q => absurd q (by omega)) (fun q => ?_)
   refine in64 (by have := hs2.2.2.2; omega) ?_
   exact ⟨k + 1, (show x.U.length - (k + 1) < x.U.length - k by omega), ⟨Nat.le_succ_of_le hk, hkx, rfl⟩, ⟨lr_ _, lr_ _, lr_ _, lr_ _, lr_ _, trivial⟩, ⟨rfl, rfl, rfl, trivial⟩⟩
  refine zac x hs2.fits _ _ ?_
  refine in64 (by omega) ?_
  exact ⟨(i + 1, x), (show s.L.length - (i + 1) < s.L.length - i by omega), ⟨hlt, rfl, hs2, hmx⟩, ⟨lr_ _, lr_ _, lr_ _, trivial⟩, ⟨rfl, rfl, trivial⟩⟩
end Go.Proofs
