/- The ground on which laws of thronglaw23 are proved: contracts of functions and plain lemmas; no condition beyond the row's own. -/
import Derived.Test.YtlmechfgnfepoaaGreatSK
import Derived.Test.YtlmechfgnfepoaaGreatSN
import Derived.Test.YtlmechfgnfepoaaGreatSJ
import Derived.Test.YtlmechfgnfepoaaGreatSO
set_option linter.unusedSimpArgs false
set_option linter.unusedVariables false
namespace Go.Proofs
open Go Go.V
def zerB : List AV := [int 0, int 0, int 0, int 0, int 0, int 0]
theorem ycp (b : Bld) : ∀ y ∈ bldC b, y.one = true := by
 intro y hy
 obtain ⟨x, rfl, h⟩ := zi4 b y hy
 exact h
theorem ybm (l : List Bld) : ∀ y ∈ (rws bldC l).flatten, y.one = true := by
 intro y hy
 obtain ⟨r, hr, hy⟩ := List.mem_flatten.1 hy
 obtain ⟨b, _, rfl⟩ := List.mem_map.1 hr
 exact ycp b y hy
set_option maxHeartbeats 1000000 in
theorem zt9 {N : Store} {v : AV} {l : List Bld} (hv : RowsQ 6 bldC N v l) (hl : l.length ≤ 256) {i : Nat} (hi : i < l.length) (R : AV → Store → Prop) (h : ∀ v' N', RowsQ 6 bldC N' v' (l.eraseIdx i) → R v' N') : ACalls Tryz.prog 169 [v, int (i : Nat), int ((i : Int) + 1)] N R := by
 rcases hv with (⟨_, hl0⟩ | ⟨b, cap, L, rfl, ho, hc1, hc2, hc3⟩) | ⟨_, _, _, hl0⟩
 ·subst hl0; exact absurd hi (Nat.not_lt_zero _)
 rotate_left
 ·subst hl0; exact absurd hi (Nat.not_lt_zero _)
 refine ACalls.of_body (c := cfg 33) ze Tryz.func169 (by rfl) (by rfl) (by rfl) (by rfl) ?_
 refine znv (i := i) (j := i + 1) (m := l.length) rfl rfl rfl rfl (by omega) (by omega) hc1 (by omega) ?_
 refine bceq (fun hh => absurd hh (by omega)) (fun _ => ?_)
 refine ADraw.of_sched ze (by rfl) (by rfl) yag (by rfl) ?_
 refine ⟨0, i, rfl, rfl, Nat.zero_le _, by omega, .inl ⟨by omega, ?_⟩⟩
 by_cases hc : i + 1 < cap
 ·refine ⟨i + 1, l.length, rfl, rfl, by omega, hc1, .inl ⟨hc, ?_⟩⟩
  refine ⟨⟨.inr ⟨_, _, rfl, rfl, zlu (ie := ti59) (n := i) (m := l.length - (i + 1)) (xs := (rws bldC (l.drop (i + 1))).flatten) rfl ho (by rw [List.length_append, zk zv]; exact hc2) (by omega) (by have := SrcOK.obj (P := Tryz.prog) (k := 6) (m := l.length - (i + 1)) (o := 0 + (i + 1) * 6) (cp := cap - (i + 1)) ho (by rw [List.length_append, zk zv]; omega) (by rw [Nat.zero_add, zhj zv (by omega)]; exact ybm _); rw [Nat.zero_add, zhj zv (by omega)] at this; rw [Nat.zero_add]; exact this) ⟨by show (i + (l.length - (i + 1))) * 48 ≤ _; omega, by omega⟩ (fun _ => ⟨trivial, ?_⟩) (fun hh => by omega)⟩⟩, trivial⟩
  rw [show zn ((rws bldC l).flatten ++ L) (i * ti59.size) (rws bldC (l.drop (i + 1))).flatten = (rws bldC (l.eraseIdx i)).flatten ++ (bldC l[l.length - 1] ++ L) from zd0 zv hi L]
  have hel := zlc hi
  have ho2 : (N.setObj b (.cells ((rws bldC (l.eraseIdx i)).flatten ++ (bldC l[l.length - 1] ++ L)))).obj b = some (.cells ((rws bldC (l.eraseIdx i)).flatten ++ (bldC l[l.length - 1] ++ L))) := zb _ _ _
  generalize N.setObj b _ = N2 at ho2 ⊢
  refine ⟨⟨trivial, ?_⟩, trivial⟩
  refine ⟨i + (l.length - (i + 1)), l.length, rfl, rfl, by omega, hc1, .inl ⟨by omega, ?_⟩⟩
  refine zf9 (ie := ti59) (b := b) (off := 0 + (i + (l.length - (i + 1))) * ti59.size) (l := (rws bldC (l.eraseIdx i)).flatten ++ (bldC l[l.length - 1] ++ L)) rfl rfl rfl rfl rfl rfl rfl (by omega) ho2 (by rw [List.length_append, zk zv, hel, List.length_append, zv]; show 0 + (i + (l.length - (i + 1))) * 6 + 6 ≤ _; omega) (by decide) ?_
  have e3 : zn ((rws bldC (l.eraseIdx i)).flatten ++ (bldC l[l.length - 1] ++ L)) (0 + (i + (l.length - (i + 1))) * ti59.size) (ti59.zero.map AV.s) = (rws bldC (l.eraseIdx i)).flatten ++ (zerB ++ L) := by
   have h1 : (rws bldC (l.eraseIdx i)).flatten.length = 0 + (i + (l.length - (i + 1))) * ti59.size := by
    rw [zk zv, hel]
    show _ = 0 + (i + (l.length - (i + 1))) * 6
    omega
   rw [ql h1, List.append_assoc]
   rfl
  rw [e3]
  have e4 : i + (l.length - (i + 1)) = (l.eraseIdx i).length := by omega
  refine ret (h _ _ (.inl (.inr ⟨b, cap, zerB ++ L, by rw [← e4]; rfl, zb _ _ _, by omega, by rw [List.length_append]; show cap * 6 ≤ _ * 6 + (6 + L.length); omega, hc3⟩)))
 ·refine ⟨i + 1, l.length, rfl, rfl, by omega, hc1, .inr ⟨by omega, ?_⟩⟩
  have e1 : l.drop (i + 1) = [] := List.drop_of_length_le (by omega)
  have hsp := zd0 zv hi L
  rw [e1] at hsp
  have hsp : zn ((rws bldC l).flatten ++ L) (i * 6) [] = (rws bldC (l.eraseIdx i)).flatten ++ (bldC l[l.length - 1] ++ L) := hsp
  have hsrc : SrcOK Tryz.prog N 6 0 (.s (.slice (some ⟨b, 0, none⟩) 0 0)) [] := by
   have := SrcOK.obj (P := Tryz.prog) (k := 6) (m := 0) (o := 0) (cp := 0) ho (by omega) (fun y hy => by simp at hy)
   simpa using this
  refine ⟨⟨.inr ⟨_, _, rfl, rfl, zlu (ie := ti59) (n := i) (m := 0) (xs := []) rfl ho (by rw [List.length_append, zk zv]; exact hc2) (by omega) hsrc ⟨by show (i + (0)) * 48 ≤ _; omega, by omega⟩ (fun _ => ⟨trivial, ?_⟩) (fun hh => by omega)⟩⟩, trivial⟩
  rw [show zn ((rws bldC l).flatten ++ L) (i * ti59.size) [] = (rws bldC (l.eraseIdx i)).flatten ++ (bldC l[l.length - 1] ++ L) from hsp]
  have hel := zlc hi
  have ho2 : (N.setObj b (.cells ((rws bldC (l.eraseIdx i)).flatten ++ (bldC l[l.length - 1] ++ L)))).obj b = some (.cells ((rws bldC (l.eraseIdx i)).flatten ++ (bldC l[l.length - 1] ++ L))) := zb _ _ _
  generalize N.setObj b _ = N2 at ho2 ⊢
  refine ⟨⟨trivial, ?_⟩, trivial⟩
  refine ⟨i + (0), l.length, rfl, rfl, by omega, hc1, .inl ⟨by omega, ?_⟩⟩
  refine zf9 (ie := ti59) (b := b) (off := 0 + (i + (0)) * ti59.size) (l := (rws bldC (l.eraseIdx i)).flatten ++ (bldC l[l.length - 1] ++ L)) rfl rfl rfl rfl rfl rfl rfl (by omega) ho2 (by rw [List.length_append, zk zv, hel, List.length_append, zv]; show 0 + (i + (0)) * 6 + 6 ≤ _; omega) (by decide) ?_
  have e3 : zn ((rws bldC (l.eraseIdx i)).flatten ++ (bldC l[l.length - 1] ++ L)) (0 + (i + (0)) * ti59.size) (ti59.zero.map AV.s) = (rws bldC (l.eraseIdx i)).flatten ++ (zerB ++ L) := by
   have h1 : (rws bldC (l.eraseIdx i)).flatten.length = 0 + (i + (0)) * ti59.size := by
    rw [zk zv, hel]
    show _ = 0 + (i + (0)) * 6
    omega
   rw [ql h1, List.append_assoc]
   rfl
  rw [e3]
  have e4 : i + (0) = (l.eraseIdx i).length := by omega
  refine ret (h _ _ (.inl (.inr ⟨b, cap, zerB ++ L, by rw [← e4]; rfl, zb _ _ _, by omega, by rw [List.length_append]; show cap * 6 ≤ _ * 6 + (6 + L.length); omega, hc3⟩)))
end Go.Proofs
namespace Go.Proofs
open Go Go.V
/-- Delete, of a list that the caller alone has: plain from then on. -/
theorem zt8 {N S : Store} (hd : Disj N S) {v : AV} {l : List Bld} (hv : RowsQ 6 bldC N v l) (hl : l.length ≤ 256) {i : Nat} (hi : i < l.length) (R : AV → Store → Prop) (h : R (lst 6 bldC (l.eraseIdx i)) S) : ACalls Tryz.prog 169 [v, int (i : Nat), int ((i : Int) + 1)] (N.un S) R := by
 have h1 : ACalls Tryz.prog 169 [v, int (i : Nat), int ((i : Int) + 1)] N fun r S2 => r = lst 6 bldC (l.eraseIdx i) ∧ S2 = Store.empty :=
  ACalls.frozenTo (zt9 hv hl hi (fun r N' => RowsQ 6 bldC N' r (l.eraseIdx i)) fun v' N' h => h) fun r N' hr =>
   ⟨_, Store.empty, ⟨rfl, rfl⟩, (fun b x hx => by cases hx), (fun b x hx => by cases hx), fun Oth M w v' sto hx => by
    refine (zbp hr sto hx).mono fun b o hT => ?_
    exact ⟨hT.1, hT.2.resolve_right fun hh => hh rfl⟩⟩
 exact ACalls.frame hd h1 fun r S2 ⟨e, e2⟩ hd2 => by subst e e2; rw [ym]; exact h
theorem zng (b : Bld) (pb xw s : Nat) (c : Cmd) (fv : AV) (st : Store) (hb : st.obj pb = some (.cells [ptr xw])) (hx : st.obj xw = some (.cells (wkC s c fv))) (R : AV → Store → Prop) (h : R (V.bool (decide (b.id = c.N))) st) : ACalls Tryz.prog 168 ([.agg (bldC b)] ++ [ptr pb]) st R := by
 rw [← beqD] at h
 refine ACalls.of_body (c := cfg 12) ze Tryz.func168 (by rfl) (by rfl) (by rfl) (by rfl) ?_
 refine ADraw.of_sched ze (by rfl) (by rfl) yah (by rfl) ?_
 refine za (o := st.obj pb) _ hb ?_
 refine za (o := st.obj xw) _ hx ?_
 refine ⟨⟨?_, ?_⟩, trivial⟩
 ·repeat (first | exact trivial | refine ⟨rfl, ?_⟩ | refine ⟨za (o := st.obj pb) _ hb rfl, ?_⟩ | refine ⟨za (o := st.obj xw) _ hx rfl, ?_⟩)
 exact ret h
theorem zow {w : Wld} {c : Cmd} {i : Nat} (h : zai w.B c.N = some i) (hi : i < w.B.length) : drE w c = if w.B[i].owner = c.P then 0 else 6 := by
 unfold drE
 rw [h]
 simp [List.getD_eq_getElem?_getD, hi]
theorem zqu {l : List Bld} {id : Int} {i : Nat} (h : zai l id = some i) : ∃ hi : i < l.length, l[i].id = id := by
 unfold zai at h
 rw [List.findIdx?_eq_some_iff_getElem] at h
 obtain ⟨h1, h2, _⟩ := h
 exact ⟨h1, of_decide_eq_true h2⟩
set_option maxHeartbeats 2000000 in
set_option maxRecDepth 20000 in
theorem zo8 {F G : Store} {xw s p : Nat} {w : Wld} {v : AV} {L : List Ent} {o0 o1 o2 : AV} {c : Cmd} {fv : AV} (hW : Work F G xw s p w v L o0 o1 o2 c fv) (hm : MayF w) (R : AV → Store → Prop)
  (h : ∀ S', drE w c ≠ 0 → R (int (drE w c)) S') (h0 : drE w c = 0 → ∀ S', Done S' xw s c fv (drW w c) → R (int 0) S') : ACalls Tryz.prog 122 [ptr xw] (F.un (svS G s w v o0 o1 o2 p)) R := by
 have hx := hW.x (F' := F) (q0 := o0) (q1 := o1) (q2 := o2)
 have hs := hW.s (F' := F) (q0 := o0) (q1 := o1) (q2 := o2)
 have hr := hW.r (F' := F) (q0 := o0) (q1 := o1) (q2 := o2)
 have hxs := hW.ne
 have hos := hW.os
 have hB := hm.hB
 obtain ⟨oa, cap, e, hget⟩ := hW.S.hu.form
 subst e
 generalize F.un (svS G s w _ o0 o1 o2 p) = S at hx hs hr ⊢
 refine ACalls.of_body (c := cfg 56 [1] []) ze Tryz.func122 (by rfl) (by rfl) (by rfl) (by rfl) ?_
 intro pb hpb
 have hbx : xw ≠ pb := fun e => by
  subst e
  have := hpb.1
  rw [hx] at this
  cases this
 have hbs : s ≠ pb := fun e => by
  subst e
  have := hpb.1
  rw [hs] at this
  cases this
 have hb : (S.setObj pb (.cells [ptr xw])).obj pb = some (.cells [ptr xw]) := zb _ _ _
 have hx := (zh (st := S) (x := .cells [ptr xw]) hbx).trans hx
 have hs := (zh (st := S) (x := .cells [ptr xw]) hbs).trans hs
 have hr := hr.set (qo hr hpb.1) (.cells [ptr xw])
 refine za (o := (S.setObj pb (.cells [ptr xw])).obj pb) _ hb ?_
 refine za (o := (S.setObj pb (.cells [ptr xw])).obj xw) _ hx ?_
 refine za (o := (S.setObj pb (.cells [ptr xw])).obj s) _ hs ?_
 refine zcp w.B (by omega) _ _ (fun b => decide (b.id = c.N)) _ (fun b _ R h => zng b pb xw s c fv _ hb hx R h) _ ?_
 have hfb : (w.B.findIdx? fun b => decide (b.id = c.N)) = zai w.B c.N := rfl
 rw [hfb]
 refine bcd (fun c1 => ?_) (fun c1 => ?_)
 ·cases hf : zai w.B c.N with
  | some i => rw [hf] at c1; exact absurd c1 (by show ¬ ((i : Int) < 0); omega)
  | none =>
   have he : drE w c = 3 := by unfold drE; rw [hf]
   have := h (S.setObj pb (.cells [ptr xw])) (by rw [he]; decide)
   rw [he] at this
   exact ret this
 cases hf : zai w.B c.N with
 | none => rw [hf] at c1; exact absurd (show (-1 : Int) < 0 by decide) c1
 | some i =>
 obtain ⟨hi, hid⟩ := zqu hf
 have he := zow hf hi
 refine ADraw.of_sched ze (by rfl) (by rfl) ya7 (by rfl) ?_
 refine za (o := (S.setObj pb (.cells [ptr xw])).obj pb) _ hb ?_
 refine za (o := (S.setObj pb (.cells [ptr xw])).obj xw) _ hx ?_
 refine za (o := (S.setObj pb (.cells [ptr xw])).obj s) _ hs ?_
 refine ⟨i, rfl, za _ (zi hi) ?_⟩
 refine za (o := (S.setObj pb (.cells [ptr xw])).obj pb) _ hb ?_
 refine za (o := (S.setObj pb (.cells [ptr xw])).obj xw) _ hx ?_
 refine ⟨⟨?_, ?_⟩, trivial⟩
 ·repeat (first | exact trivial | refine ⟨rfl, ?_⟩ | refine ⟨za (o := (S.setObj pb (.cells [ptr xw])).obj pb) _ hb rfl, ?_⟩ | refine ⟨za (o := (S.setObj pb (.cells [ptr xw])).obj xw) _ hx rfl, ?_⟩ | refine ⟨za (o := (S.setObj pb (.cells [ptr xw])).obj s) _ hs rfl, ?_⟩ | refine ⟨⟨i, rfl, za _ (zi hi) rfl⟩, ?_⟩)
 refine bcne (fun c2 => ?_) (fun c2 => ?_)
 ·rw [if_neg c2] at he
  have := h (S.setObj pb (.cells [ptr xw])) (by rw [he]; decide)
  rw [he] at this
  exact ret this
 rw [if_pos c2] at he
 have hW2 : drW w c = { w with B := w.B.eraseIdx i } := by unfold drW; rw [hf]
 refine ADraw.of_sched ze (by rfl) (by rfl) ya6 (by rfl) ?_
 refine za (o := (S.setObj pb (.cells [ptr xw])).obj pb) _ hb ?_
 refine za (o := (S.setObj pb (.cells [ptr xw])).obj xw) _ hx ?_
 refine za (o := (S.setObj pb (.cells [ptr xw])).obj pb) _ hb ?_
 refine za (o := (S.setObj pb (.cells [ptr xw])).obj xw) _ hx ?_
 refine za (o := (S.setObj pb (.cells [ptr xw])).obj s) _ hs ?_
 refine in64 (by show -9223372036854775808 ≤ ((i : Nat) : Int) + 1 ∧ ((i : Nat) : Int) + 1 ≤ 9223372036854775807; omega) ?_
 refine ⟨zbu w.B (by omega) _ _ (fun v2 N hv2 hd => ⟨?_, ?_⟩), trivial⟩
 ·have hb2 : (N.un (S.setObj pb (.cells [ptr xw]))).obj pb = _ := un_r hb
  have hx2 : (N.un (S.setObj pb (.cells [ptr xw]))).obj xw = _ := un_r hx
  have hs2 : (N.un (S.setObj pb (.cells [ptr xw]))).obj s = _ := un_r hs
  repeat (first | exact trivial | refine ⟨rfl, ?_⟩ | refine ⟨za (o := (N.un (S.setObj pb (.cells [ptr xw]))).obj pb) _ hb2 rfl, ?_⟩ | refine ⟨za (o := (N.un (S.setObj pb (.cells [ptr xw]))).obj xw) _ hx2 rfl, ?_⟩ | refine ⟨za (o := (N.un (S.setObj pb (.cells [ptr xw]))).obj s) _ hs2 rfl, ?_⟩)
 refine ⟨zt8 hd hv2 (by omega) hi _ ⟨?_, ?_⟩, trivial⟩
 ·repeat (first | exact trivial | refine ⟨rfl, ?_⟩ | refine ⟨za (o := (S.setObj pb (.cells [ptr xw])).obj pb) _ hb rfl, ?_⟩ | refine ⟨za (o := (S.setObj pb (.cells [ptr xw])).obj xw) _ hx rfl, ?_⟩ | refine ⟨za (o := (S.setObj pb (.cells [ptr xw])).obj s) _ hs rfl, ?_⟩)
 refine ⟨?_, trivial⟩
 refine za _ rfl (qb rfl (qk (v := lst 6 bldC (w.B.eraseIdx i)) rfl rfl rfl rfl ?_))
 refine zq (i := ti25) (v := lst 6 bldC (w.B.eraseIdx i)) (b := s) (o := 6) (l := svC w (.s (.slice oa w.U.length cap)) o0 o1 o2 p) rfl rfl rfl hs (show 6 + 1 ≤ 12 by decide) ?_
 have hs3 : ((S.setObj pb (.cells [ptr xw])).setObj s (.cells (zn (svC w (.s (.slice oa w.U.length cap)) o0 o1 o2 p) 6 [lst 6 bldC (w.B.eraseIdx i)]))).obj s = some (.cells (svC { w with B := w.B.eraseIdx i } (.s (.slice oa w.U.length cap)) o0 o1 o2 p)) := zb _ _ _
 have hx3 := (zh (st := S.setObj pb (.cells [ptr xw])) (x := .cells (zn (svC w (.s (.slice oa w.U.length cap)) o0 o1 o2 p) 6 [lst 6 bldC (w.B.eraseIdx i)])) hxs).trans hx
 have hr3 := hr.set hos (.cells (zn (svC w (.s (.slice oa w.U.length cap)) o0 o1 o2 p) 6 [lst 6 bldC (w.B.eraseIdx i)]))
 have hb3 := (zh (st := S.setObj pb (.cells [ptr xw])) (x := .cells (zn (svC w (.s (.slice oa w.U.length cap)) o0 o1 o2 p) 6 [lst 6 bldC (w.B.eraseIdx i)])) (Ne.symm hbs)).trans hb
 refine ⟨trivial, ?_⟩
 exact ret (h0 he _ (by rw [hW2]; exact ⟨_, o0, o1, o2, p, hx3, hs3, hr3⟩))
theorem yi7 : vk 5 drE drW := by
 intro F G xw s p w v L o0 o1 o2 c hW hm hn hc hp hk R h h0
 have hx := hW.x (F' := F) (q0 := o0) (q1 := o1) (q2 := o2)
 refine ACalls.of_body (c := cfg 34) ze Tryz.func79 (by rfl) (by rfl) (by rfl) (by rfl) ?_
 refine za (o := (F.un (svS G s w v o0 o1 o2 p)).obj xw) _ hx ?_
 refine bceq (fun c1 => absurd (hk.symm.trans c1) (by decide)) (fun _ => ?_)
 refine bceq (fun c1 => absurd (hk.symm.trans c1) (by decide)) (fun _ => ?_)
 refine bceq (fun c1 => absurd (hk.symm.trans c1) (by decide)) (fun _ => ?_)
 refine bceq (fun c1 => absurd (hk.symm.trans c1) (by decide)) (fun _ => ?_)
 refine bceq (fun _ => ?_) (fun c1 => absurd hk c1)
 refine zo8 hW (mayF hm) _ (fun S' he => ret (h S' he)) (fun he S' hd => ret (h0 he S' hd))
end Go.Proofs
namespace Go.Proofs
open Go Go.V
theorem zp2 (l : List Bld) (hl : l.length ≤ 256) (id : Int) (i : Nat) (hf : zai l id = some i) : ACalls Tryz.prog 90 [lst 6 bldC l, int id] Store.empty fun r S => ∃ v, RowsQ 6 bldC S v (l.eraseIdx i) ∧ r = .tup [v, .s (.bool true)] := by
 have hf0 := hf
 unfold zai at hf0
 rw [List.findIdx?_eq_some_iff_getElem] at hf0
 obtain ⟨hil, hid, hbefore⟩ := hf0
 refine ACalls.of_body (c := cfg 31) ze Tryz.func90 (by rfl) (by rfl) (by rfl) (by rfl) ?_
 refine AWp.loop (σ := Nat) ⟨fun k => [(0, .av (lst 6 bldC l)), (1, .av (int id)), (6, .av (int (k : Nat)))], fun _ => [],
  fun k st' => k ≤ i ∧ st' = Store.empty, fun k => l.length - k⟩ ze ?_ ?_
 ·exact ⟨0, trivial, ⟨Nat.zero_le _, rfl⟩, ⟨lr_ _, lr_ _, lr_ _, trivial⟩, trivial⟩
 rintro k st' ⟨hk, rfl⟩
 have hlt : k < l.length := by omega
 refine zd (fun h1 => ?_) (fun h1 => ?_)
 rotate_left
 ·have h1 := of_decide_eq_false h1
  rw [zf] at h1
  omega
 refine ⟨k, rfl, za _ (zi hlt) ?_⟩
 refine bceq (fun c1 => ?_) (fun c1 => ?_)
 ·have hki : k = i := by
   by_cases e : k = i
   ·exact e
   ·exact absurd (decide_eq_true c1) (hbefore k (by omega))
  subst hki
  refine ⟨0, k, rfl, rfl, Nat.zero_le _, by rw [zf]; omega, ?_⟩
  refine ACalls.le (ys := [lst 6 bldC (l.take k)]) ⟨by unfold lst rws; rw [List.drop_zero, List.map_take]; exact ar_ _, trivial⟩ (zlj (l.take k) (by rw [List.length_take]; omega) _ _ (fun v N hv hd => ?_))
  have hvQ : RowsQ 6 bldC (N.un Store.empty) v (l.take k) := hv.q.unL hd
  refine in64 (by omega) ?_
  refine ⟨k + 1, l.length, rfl, by rw [zf]; rfl, by omega, by rw [zf]; exact Nat.le_refl _, ?_⟩
  refine ycs (ie := ti59) rfl zv (by decide) hvQ (l.drop (k + 1)) ?_ (by rw [List.length_take, List.length_drop]; omega) (fun v' st' hv' => ?_)
  ·rw [List.take_of_length_le (by rw [zf]; exact Nat.le_refl _)]
   unfold rws
   rw [List.map_drop]
   rfl
  rw [← List.eraseIdx_eq_take_drop_succ] at hv'
  exact ret ⟨_, hv', rfl⟩
 ·have hki : k ≠ i := fun e => by
   subst e
   exact c1 (of_decide_eq_true hid)
  refine in64 (by omega) ?_
  refine ⟨k + 1, ?_, ⟨by omega, rfl⟩, ⟨lr_ _, lr_ _, lr_ _, trivial⟩, trivial⟩
  show l.length - (k + 1) < l.length - k
  omega
theorem zmi (l : List Bld) (hl : l.length ≤ 256) (id : Int) (i : Nat) (hf : zai l id = some i) (st : Store) (R : AV → Store → Prop) (h : R (.tup [lst 6 bldC (l.eraseIdx i), V.bool true]) st) : ACalls Tryz.prog 90 [lst 6 bldC l, int id] st R :=
 yii (q := True) (a := .bool false) (b := .bool true) ((zp2 l hl id i hf).imp fun r S hr => .inr ⟨trivial, hr⟩) st R (fun hh => absurd trivial hh) (fun _ => h)
set_option maxHeartbeats 1000000 in
theorem zp1 {S : Store} {p : Nat} {w : Wld} {v : AV} (hp : S.obj p = some (.cells (wldV w v))) (hv : RowsQ 10 untC S v w.U) (hoff : offB v p) (hm : MayF w) (c : Cmd) (R : AV → Store → Prop)
  (h : ∀ S', drE w c ≠ 0 → R (int (drE w c)) S') (h0 : drE w c = 0 → ∀ S' v', S'.obj p = some (.cells (wldV (drW w c) v')) → RowsQ 10 untC S' v' (drW w c).U → R (int 0) S') : ACalls Tryz.prog 56 [ptr p, .agg (cmdC c)] S R := by
 have hB := hm.hB
 obtain ⟨oa, cap, e, hget⟩ := hv.form
 subst e
 refine ACalls.of_body (c := cfg 50) ze Tryz.func56 (by rfl) (by rfl) (by rfl) (by rfl) ?_
 refine AWp.loop (σ := Nat) ⟨fun i => [(0, .av (ptr p)), (3, .bx 3 0), (5, .av (int (i : Nat)))], fun _ => [(3, cmdC c)],
  fun i st' => i ≤ w.B.length ∧ st' = S ∧ ∀ j, (hj : j < w.B.length) → j < i → w.B[j].id ≠ c.N, fun i => w.B.length - i⟩ ze ?_ ?_
 ·exact ⟨0, trivial, ⟨Nat.zero_le _, rfl, fun j _ hj => by omega⟩, ⟨lr_ _, lr_ _, lr_ _, trivial⟩, ⟨rfl, trivial⟩⟩
 rintro i st' ⟨hi, rfl, hno⟩
 refine za (o := st'.obj p) _ hp ?_
 refine zd (fun h1 => ?_) (fun h1 => ?_)
 rotate_left
 ·have hil : i = w.B.length := y9 h1 hi
  subst hil
  have hf : zai w.B c.N = none := by
   unfold zai
   rw [List.findIdx?_eq_none_iff]
   intro x hx
   obtain ⟨j, hj, rfl⟩ := List.getElem_of_mem hx
   exact decide_eq_false (hno j hj hj)
  have he : drE w c = 3 := by unfold drE; rw [hf]
  have := h st' (by rw [he]; decide)
  rw [he] at this
  exact ret this
 have hlt := yw h1
 refine ADraw.of_sched ze (by rfl) (by rfl) ygk (by rfl) ?_
 refine za (o := st'.obj p) _ hp ?_
 refine ⟨i, rfl, za _ (zi hlt) ?_⟩
 refine bcne (fun c1 => ?_) (fun c1 => ?_)
 ·refine in64 (by omega) ?_
  refine ⟨i + 1, ?_, ⟨by omega, rfl, fun j hj hji => ?_⟩, ⟨lr_ _, lr_ _, lr_ _, trivial⟩, ⟨rfl, trivial⟩⟩
  ·show w.B.length - (i + 1) < w.B.length - i
   omega
  ·by_cases e : j = i
   ·subst e; exact c1
   ·exact hno j hj (by omega)
 have hf : zai w.B c.N = some i := by
  unfold zai
  rw [List.findIdx?_eq_some_iff_getElem]
  exact ⟨hlt, decide_eq_true c1, fun j hj => by simpa using hno j (by omega) hj⟩
 have he := zow hf hlt
 refine ADraw.of_sched ze (by rfl) (by rfl) ygj (by rfl) ?_
 refine za (o := st'.obj p) _ hp ?_
 refine ⟨i, rfl, za _ (zi hlt) ?_⟩
 refine bcne (fun c2 => ?_) (fun c2 => ?_)
 ·rw [if_neg c2] at he
  have := h st' (by rw [he]; decide)
  rw [he] at this
  exact ret this
 rw [if_pos c2] at he
 have hW2 : drW w c = { w with B := w.B.eraseIdx i } := by unfold drW; rw [hf]
 refine ADraw.of_sched ze (by rfl) (by rfl) ygi (by rfl) ?_
 refine za (o := st'.obj p) _ hp ?_
 refine ⟨zmi w.B hB c.N i hf _ _ ⟨?_, ?_⟩, trivial⟩
 ·repeat (first | exact trivial | refine ⟨rfl, ?_⟩ | refine ⟨za (o := st'.obj p) _ hp rfl, ?_⟩)
 refine ⟨?_, trivial⟩
 refine za _ rfl (qb rfl (qk (v := lst 6 bldC (w.B.eraseIdx i)) rfl rfl rfl rfl ?_))
 refine zq (i := ti25) (v := lst 6 bldC (w.B.eraseIdx i)) (b := p) (o := 6) (l := wldV w (.s (.slice oa w.U.length cap))) rfl rfl rfl hp (show 6 + 1 ≤ 8 by decide) ?_
 have hp3 : (st'.setObj p (.cells (zn (wldV w (.s (.slice oa w.U.length cap))) 6 [lst 6 bldC (w.B.eraseIdx i)]))).obj p = some (.cells (wldV { w with B := w.B.eraseIdx i } (.s (.slice oa w.U.length cap)))) := zb _ _ _
 have hr3 := hv.set hoff (.cells (zn (wldV w (.s (.slice oa w.U.length cap))) 6 [lst 6 bldC (w.B.eraseIdx i)]))
 refine ⟨trivial, ?_⟩
 exact ret (h0 he _ _ (by rw [hW2]; exact hp3) (by rw [hW2]; exact hr3))
theorem zmm (w : Wld) (hw : w.fits) (hn : ∀ u ∈ w.U, u.pos.ok) (hU : w.U.length ≤ 1000000) (c : Cmd) (hc : c.fits) (hK : c.K = 5) : ACalls Tryz.prog 34 [.agg (wldC w), .agg (cmdC c)] Store.empty (DoQ drE drW w c) := by
 refine ACalls.of_body (c := cfg 97 [6] []) ze Tryz.func34 (by rfl) (by rfl) (by rfl) (by rfl) ?_
 have bad : (¬ mayP w ∨ ¬ cmdP c ∨ w.players < c.P) → DoQ drE drW w c (.tup [.agg (wldC w), int 1]) Store.empty := fun hb => by
  have he := j5 (E := drE) (w := w) (c := c) hb
  exact .inl ⟨by rw [he]; decide, by rw [he]⟩
 refine qz w hw hn _ _ (fun z hz => ?_)
 refine yc ?_
 refine zd (fun c1 => ?_) (fun c1 => ?_)
 rotate_left
 ·exact ret (bad (.inl fun hh => by have := hz.2 hh; rw [this] at c1; cases c1))
 refine yy c hc _ _ (fun zc hzc => ?_)
 refine yc ?_
 refine zd (fun c2 => ?_) (fun c2 => ?_)
 rotate_left
 ·exact ret (bad (.inr (.inl fun hh => by have := hzc.2 hh; rw [this] at c2; cases c2)))
 refine bcd (fun c3 => ?_) (fun c3 => ?_)
 ·exact ret (bad (.inr (.inr (by omega))))
 have hm := hz.1 c1
 have hcp := hzc.1 c2
 have he := zam (E := drE) hm hcp (show c.P ≤ w.players by omega)
 refine qc w hw hU _ _ (fun v N hv _ => ?_)
 rw [xr]
 have hv := hv.q
 have hoff := fun (p : Nat) (hp : Fresh N p) => qo hv (xy (fresh_iff.1 hp)).1
 obtain ⟨oa, cap, e, _⟩ := hv.form
 subst e
 refine fun p hp => ?_
 refine yu (i := ti28) (v := .agg (wldV w (.s (.slice oa w.U.length cap)))) (xs := wldV w (.s (.slice oa w.U.length cap))) (b := p) (o := 0) (l := _) rfl rfl rfl (zb _ _ _) (show 0 + 8 ≤ 8 by decide) ?_
 generalize hS : (N.setObj p _).setObj p _ = S
 have hp2 : S.obj p = some (.cells (wldV w (.s (.slice oa w.U.length cap)))) := by rw [← hS]; exact zb _ _ _
 have hr2 : RowsQ 10 untC S (.s (.slice oa w.U.length cap)) w.U := by rw [← hS]; exact (hv.set (hoff p hp) _).set (hoff p hp) _
 refine bceq (fun h => absurd (hK.symm.trans h) (by decide)) (fun _ => ?_)
 refine bceq (fun h => absurd (hK.symm.trans h) (by decide)) (fun _ => ?_)
 refine bceq (fun h => absurd (hK.symm.trans h) (by decide)) (fun _ => ?_)
 refine bceq (fun h => absurd (hK.symm.trans h) (by decide)) (fun _ => ?_)
 refine bceq (fun _ => ?_) (fun h => absurd hK h)
 refine zp1 hp2 hr2 (hoff p hp) (mayF hm) c _ (fun S' hE => ?_) (fun hE S' v' g1 g2 => ?_)
 ·refine bcne (fun _ => ?_) (fun h => absurd h hE)
  exact ret (.inl ⟨by rw [he]; exact hE, by rw [he]; rfl⟩)
 ·obtain ⟨oa2, cap2, e2, _⟩ := g2.form
  subst e2
  refine za (o := S'.obj p) _ g1 ?_
  exact ret (.inr ⟨he.trans hE, _, g2, rfl⟩)
theorem ref5 : zgn 5 drE drW := fun w hw hn hU c hc hK R h => wg (zmm w hw hn hU c hc hK) R h
end Go.Proofs
namespace Go.Proofs
open Go Go.V
theorem yi4 (k : Int) : vk k aE aW := by
 intro F G xw s p w v L o0 o1 o2 c hW hm hn hc hp hk R h h0
 rcases yg9 hc with q | q | q | q | q | q | q
 ·obtain ⟨e1, e2⟩ := a1 (w := w) q
  rw [e1] at h h0
  rw [e2] at h0
  exact yhg F G xw s p w v L o0 o1 o2 c hW hm hn hc hp q R h h0
 ·obtain ⟨e1, e2⟩ := a2 (w := w) q
  rw [e1] at h h0
  rw [e2] at h0
  exact yja F G xw s p w v L o0 o1 o2 c hW hm hn hc hp q R h h0
 ·obtain ⟨e1, e2⟩ := a3 (w := w) q
  rw [e1] at h h0
  rw [e2] at h0
  exact yi9 F G xw s p w v L o0 o1 o2 c hW hm hn hc hp q R h h0
 ·obtain ⟨e1, e2⟩ := a4 (w := w) q
  rw [e1] at h h0
  rw [e2] at h0
  exact yi8 F G xw s p w v L o0 o1 o2 c hW hm hn hc hp q R h h0
 ·obtain ⟨e1, e2⟩ := a5 (w := w) q
  rw [e1] at h h0
  rw [e2] at h0
  exact yi7 F G xw s p w v L o0 o1 o2 c hW hm hn hc hp q R h h0
 ·obtain ⟨e1, e2⟩ := a6 (w := w) q
  rw [e1] at h h0
  rw [e2] at h0
  exact yi6 F G xw s p w v L o0 o1 o2 c hW hm hn hc hp q R h h0
 ·obtain ⟨e1, e2⟩ := a7 (w := w) q
  rw [e1] at h h0
  rw [e2] at h0
  exact yi5 F G xw s p w v L o0 o1 o2 c hW hm hn hc hp q R h h0
/-- A command that is none. -/
theorem zmr (w : Wld) (hw : w.fits) (hn : ∀ u ∈ w.U, u.pos.ok) (hU : w.U.length ≤ 1000000) (c : Cmd) (hc : c.fits) (hK : ¬ cmdP c) : ACalls Tryz.prog 34 [.agg (wldC w), .agg (cmdC c)] Store.empty fun r S => r = .tup [.agg (wldC (doW aE aW w c)), int (doE aE w c)] ∧ S = Store.empty := by
 have he := j5 (E := aE) (w := w) (c := c) (.inr (.inl hK))
 have hw2 : doW aE aW w c = w := zal (by rw [he]; decide)
 rw [he, hw2]
 refine ACalls.of_body (c := cfg 97 [6] []) ze Tryz.func34 (by rfl) (by rfl) (by rfl) (by rfl) ?_
 refine qz w hw hn _ _ (fun z hz => ?_)
 refine yc ?_
 refine zd (fun c1 => ?_) (fun c1 => ?_)
 rotate_left
 ·exact ret ⟨rfl, rfl⟩
 refine yy c hc _ _ (fun zc hzc => ?_)
 refine yc ?_
 refine zd (fun c2 => absurd (hzc.1 c2) hK) (fun c2 => ?_)
 exact ret ⟨rfl, rfl⟩
theorem refA (k : Int) : zgn k aE aW := by
 intro w hw hn hU c hc hk R h
 by_cases hcp : cmdP c
 ·rcases yg9 hcp with q | q | q | q | q | q | q
  ·obtain ⟨e1, e2⟩ := zf1 (a1 (w := w) q)
   rw [e1, e2] at h
   exact ref1 w hw hn hU c hc q R h
  ·obtain ⟨e1, e2⟩ := zf1 (a2 (w := w) q)
   rw [e1, e2] at h
   exact ref2 w hw hn hU c hc q R h
  ·obtain ⟨e1, e2⟩ := zf1 (a3 (w := w) q)
   rw [e1, e2] at h
   exact ref3 w hw hn hU c hc q R h
  ·obtain ⟨e1, e2⟩ := zf1 (a4 (w := w) q)
   rw [e1, e2] at h
   exact ref4 w hw hn hU c hc q R h
  ·obtain ⟨e1, e2⟩ := zf1 (a5 (w := w) q)
   rw [e1, e2] at h
   exact ref5 w hw hn hU c hc q R h
  ·obtain ⟨e1, e2⟩ := zf1 (a6 (w := w) q)
   rw [e1, e2] at h
   exact ref6 w hw hn hU c hc q R h
  ·obtain ⟨e1, e2⟩ := zf1 (a7 (w := w) q)
   rw [e1, e2] at h
   exact ref7 w hw hn hU c hc q R h
 ·exact (zmr w hw hn hU c hc hcp).imp fun r S ⟨e1, e2⟩ => by subst e1 e2; exact h
/-- Worlds that may be handed on. -/
def smallW (w : Wld) : Prop := (∀ u ∈ w.U, u.pos.ok) ∧ w.G.T.length ≤ 1000000 ∧ w.B.length ≤ 1000000 ∧ w.U.length ≤ 1000000
theorem smallW.fits {w : Wld} (h : smallW w) : w.fits := ⟨by unfold Gnd.fits; have := h.2.1; omega, by have := h.2.2.1; omega, by have := h.2.2.2; omega⟩
theorem zgu {w z : Wld} {c : Cmd} (h : smallW w) (hz : z = doW aE aW w c ∨ z = w00q) : smallW z := by
 rcases hz with rfl | rfl
 ·by_cases he : doE aE w c = 0
  ·rw [zhk he]
   exact ⟨yix h.1 he, ydc (zox he).1⟩
  ·rw [zal he]; exact h
 ·exact ⟨fun u hu => (by cases hu), by decide, by decide, by decide⟩
set_option maxHeartbeats 2000000 in
set_option maxRecDepth 20000 in
theorem zgm (s : Scr) (hn : ∀ u ∈ s.W.U, u.pos.ok) (hfs : ∀ c ∈ s.L, c.sized) (st : Store) (R : AV → Store → Prop) (h : R (V.bool true) st) : ACalls Tryz.prog 3 [.agg (scrC s)] st R := by
 refine ACalls.of_body (c := cfg 39) ze Tryz.func3 (by rfl) (by rfl) (by rfl) (by rfl) ?_
 refine zkw s hfs _ _ (fun z hz => ?_)
 refine zd (fun c1 => ret h) (fun c1 => ?_)
 obtain ⟨hng, hl60, hf⟩ := hz c1
 have hng2 := hng
 unfold zk0 at hng2
 have hsm : smallW s.W := ⟨hn, by omega, by omega, by omega⟩
 refine xq s.W hsm.fits _ _ ?_
 refine AWp.loop (σ := Nat × Wld) ⟨fun x => [(1, .bx 1 0), (3, .bx 3 0), (4, .av (int (x.1 : Nat)))], fun x => [(1, scrC s), (3, wldC x.2)], fun x st' => x.1 ≤ s.L.length ∧ st' = st ∧ smallW x.2, fun x => s.L.length - x.1⟩ ze ?_ ?_
 ·exact ⟨(0, s.W), trivial, ⟨Nat.zero_le _, rfl, hsm⟩, ⟨lr_ _, lr_ _, lr_ _, trivial⟩, ⟨rfl, rfl, trivial⟩⟩
 rintro ⟨i, w⟩ st' ⟨hi, rfl, hw⟩
 dsimp only at hi hw ⊢
 refine zd (fun h1 => ?_) (fun h1 => zdi _ _ (ret h))
 have hlt : i < s.L.length := yw h1
 refine bcd (fun h2 => ?_) (fun h2 => zdi _ _ (ret h))
 have one := fun st2 R2 => ybr (yi4 s.L[i].K) (refA s.L[i].K) w hw.fits hw.1 hw.2.1 hw.2.2.1 hw.2.2.2 s.L[i] (fun hm => ydc hm) (hf _ (List.getElem_mem hlt)) rfl st2 R2
 refine ADraw.of_sched ze (by rfl) (by rfl) yh8 (by rfl) ?_
 refine ⟨i, rfl, za _ (zi hlt) ?_⟩
 have next : ∀ (z : Wld) (A : Fr), smallW z → A.t 1 = .bx 1 0 → A.t 3 = .bx 3 0 → A.t 4 = .av (int (((i : Int) + 1))) → A.bx 1 = some (scrC s) → A.bx 3 = some (wldC z) → ∃ x : Nat × Wld, s.L.length - x.1 < s.L.length - i ∧ (x.1 ≤ s.L.length ∧ st' = st' ∧ smallW x.2) ∧ zm8 A [(1, .bx 1 0), (3, .bx 3 0), (4, .av (int (x.1 : Nat)))] ∧ zm9 A [(1, scrC s), (3, wldC x.2)] := by
  intro z A hz g1 g3 g4 gb gb3
  exact ⟨(i + 1, z), by dsimp only; omega, ⟨hlt, rfl, hz⟩, ⟨by rw [g1]; exact lr_ _, by rw [g3]; exact lr_ _, by rw [g4]; exact lr_ _, trivial⟩, ⟨gb, gb3, trivial⟩⟩
 refine ⟨one _ _ (fun z hz => ⟨trivial, ?_⟩), ⟨⟨?_, ⟨one _ _ (fun z hz => ⟨trivial, ?_⟩), trivial⟩⟩, trivial⟩⟩
 ·have hzs := zgu hw hz
  refine ⟨⟨(by repeat (first | exact trivial | refine ⟨rfl, ?_⟩ | refine ⟨⟨i, rfl, za _ (zi hlt) rfl⟩, ?_⟩)), ⟨⟨trivial, ⟨⟨trivial, ?_⟩, trivial⟩⟩, trivial⟩⟩, trivial⟩
  refine qz z hzs.fits hzs.1 _ _ (fun b hb => ?_)
  refine zd (fun c5 => ?_) (fun c5 => ?_)
  ·refine in64 (by omega) ?_
   exact next z _ hzs rfl rfl rfl rfl rfl
  ·refine in64 (by omega) ?_
   exact next w _ hw rfl rfl rfl rfl rfl
 ·repeat (first | exact trivial | refine ⟨rfl, ?_⟩ | refine ⟨⟨i, rfl, za _ (zi hlt) rfl⟩, ?_⟩)
 ·have hzs := zgu hw hz
  refine ⟨⟨trivial, ⟨⟨trivial, ?_⟩, trivial⟩⟩, trivial⟩
  refine qz z hzs.fits hzs.1 _ _ (fun b hb => ?_)
  refine zd (fun c5 => ?_) (fun c5 => ?_)
  ·refine in64 (by omega) ?_
   exact next z _ hzs rfl rfl rfl rfl rfl
  ·refine in64 (by omega) ?_
   exact next w _ hw rfl rfl rfl rfl rfl
end Go.Proofs
