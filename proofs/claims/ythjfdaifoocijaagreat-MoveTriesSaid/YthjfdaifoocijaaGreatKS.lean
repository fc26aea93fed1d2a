/- Ground of laws of thronglaw24: contracts and plain lemmas; no condition beyond the row's own. -/
import Derived.Test.YthjfdaifoocijaaGreatKQ
import Derived.Test.YthjfdaifoocijaaGreatKR
set_option linter.unusedSimpArgs false
set_option linter.unusedVariables false
namespace Go.Proofs
open Go Go.V
set_option maxRecDepth 4000
theorem zhu {F : Store} {s p : Nat} {G : Store} {w : Wld} {v : AV} {L : List Ent} {o0 o1 o2 : AV} (hS : StandR F G s p w v L o0 o1 o2) (hg : zl w.G) (hB : w.B.length <= 1000000000000) (hb : ∀ b ∈ w.B, z7 b /\ onP w.G b) (c : Int) (hc : c = 0 \/ c = 1 \/ c = 2) (R : AV -> Store -> Prop)
  (h : ∀ q0 q1 q2, StandR F G s p w v L q0 q1 q2 -> R (opV w.G w.B c) (F.un (svS G s w v q0 q1 q2 p))) : ACalls Tryz.prog 136 [ptr s, int c] (F.un (svS G s w v o0 o1 o2 p)) R := by
 have ho := zf (a := F) (k5 G s w v o0 o1 o2 p)
 obtain ⟨x0, y0, hne0⟩ := jg hg w.B 0
 obtain ⟨x1, y1, hne1⟩ := jg hg w.B 1
 obtain ⟨x2, y2, hne2⟩ := jg hg w.B 2
 rcases hc with rfl | rfl | rfl
 ·rcases hS.h0 with e | e
  ·subst e
   refine ACalls.of_body (c := cfg 35) zb Tryz.func136 (by rfl) (by rfl) (by rfl) (by rfl) ?_
   refine ⟨0, rfl, by decide, ?_⟩
   refine za (o := (F.un (svS G s w v _ _ _ p)).obj s) _ ho ?_
   refine ADraw.of_sched zb (by rfl) (by rfl) Ay (by rfl) ?_
   refine za (o := (F.un (svS G s w v _ _ _ p)).obj s) _ ho ?_
   refine za (o := (F.un (svS G s w v _ _ _ p)).obj s) _ ho ?_
   refine ⟨Dw w.G hg w.B hB hb 0 _ _ ⟨Tv, ?_⟩, Tv⟩
   refine ⟨0, rfl, by decide, ?_⟩
   have ho2 := zf (a := F) (k5 G s w v (opV w.G w.B 0) o1 o2 p)
   have hc2 := Bn (jg hg w.B 0)
   refine ⟨?_, Tv⟩
   refine za _ rfl (xo rfl (xh (v := opV w.G w.B 0) rfl rfl rfl rfl ?_))
   refine qd (i := ti88) (v := opV w.G w.B 0) (b := s) (o := 0 + 8 + 0 * ti88.size) (l := svC w v _ o1 o2 p) (st2 := F.un (svS G s w v (opV w.G w.B 0) o1 o2 p)) hc2.1 hc2.2 rfl ho (show 8 + 1 <= 12 by decide) ?_ ?_
   ·rw [yx]
    unfold svS
    rw [yr]
    rfl
   refine ⟨Tv, ?_⟩
   refine ⟨0, rfl, by decide, ?_⟩
   refine za (o := (F.un (svS G s w v _ _ _ p)).obj s) _ ho2 ?_
   exact ret (h _ _ _ ⟨hS.hc, Pj hS.hd, hS.hs, hS.hu, .inr rfl, hS.h1, hS.h2⟩)
  ·rw [hne0] at e
   subst e
   refine ACalls.of_body (c := cfg 35) zb Tryz.func136 (by rfl) (by rfl) (by rfl) (by rfl) ?_
   refine ⟨0, rfl, by decide, ?_⟩
   refine za (o := (F.un (svS G s w v _ _ _ p)).obj s) _ ho ?_
   refine fun bb hbb => ?_
   have hbf : bb = false := by
    cases bb with
    | true => cases hbb rfl
    | false => rfl
   subst hbf
   refine ⟨0, rfl, by decide, ?_⟩
   refine za (o := (F.un (svS G s w v _ _ _ p)).obj s) _ ho ?_
   refine ret ?_
   have := h _ _ _ hS
   rw [hne0] at this
   exact this
 ·rcases hS.h1 with e | e
  ·subst e
   refine ACalls.of_body (c := cfg 35) zb Tryz.func136 (by rfl) (by rfl) (by rfl) (by rfl) ?_
   refine ⟨1, rfl, by decide, ?_⟩
   refine za (o := (F.un (svS G s w v _ _ _ p)).obj s) _ ho ?_
   refine ADraw.of_sched zb (by rfl) (by rfl) Ay (by rfl) ?_
   refine za (o := (F.un (svS G s w v _ _ _ p)).obj s) _ ho ?_
   refine za (o := (F.un (svS G s w v _ _ _ p)).obj s) _ ho ?_
   refine ⟨Dw w.G hg w.B hB hb 1 _ _ ⟨Tv, ?_⟩, Tv⟩
   refine ⟨1, rfl, by decide, ?_⟩
   have ho2 := zf (a := F) (k5 G s w v o0 (opV w.G w.B 1) o2 p)
   have hc2 := Bn (jg hg w.B 1)
   refine ⟨?_, Tv⟩
   refine za _ rfl (xo rfl (xh (v := opV w.G w.B 1) rfl rfl rfl rfl ?_))
   refine qd (i := ti88) (v := opV w.G w.B 1) (b := s) (o := 0 + 8 + 1 * ti88.size) (l := svC w v o0 _ o2 p) (st2 := F.un (svS G s w v o0 (opV w.G w.B 1) o2 p)) hc2.1 hc2.2 rfl ho (show 9 + 1 <= 12 by decide) ?_ ?_
   ·rw [yx]
    unfold svS
    rw [yr]
    rfl
   refine ⟨Tv, ?_⟩
   refine ⟨1, rfl, by decide, ?_⟩
   refine za (o := (F.un (svS G s w v _ _ _ p)).obj s) _ ho2 ?_
   exact ret (h _ _ _ ⟨hS.hc, Pj hS.hd, hS.hs, hS.hu, hS.h0, .inr rfl, hS.h2⟩)
  ·rw [hne1] at e
   subst e
   refine ACalls.of_body (c := cfg 35) zb Tryz.func136 (by rfl) (by rfl) (by rfl) (by rfl) ?_
   refine ⟨1, rfl, by decide, ?_⟩
   refine za (o := (F.un (svS G s w v _ _ _ p)).obj s) _ ho ?_
   refine fun bb hbb => ?_
   have hbf : bb = false := by
    cases bb with
    | true => cases hbb rfl
    | false => rfl
   subst hbf
   refine ⟨1, rfl, by decide, ?_⟩
   refine za (o := (F.un (svS G s w v _ _ _ p)).obj s) _ ho ?_
   refine ret ?_
   have := h _ _ _ hS
   rw [hne1] at this
   exact this
 ·rcases hS.h2 with e | e
  ·subst e
   refine ACalls.of_body (c := cfg 35) zb Tryz.func136 (by rfl) (by rfl) (by rfl) (by rfl) ?_
   refine ⟨2, rfl, by decide, ?_⟩
   refine za (o := (F.un (svS G s w v _ _ _ p)).obj s) _ ho ?_
   refine ADraw.of_sched zb (by rfl) (by rfl) Ay (by rfl) ?_
   refine za (o := (F.un (svS G s w v _ _ _ p)).obj s) _ ho ?_
   refine za (o := (F.un (svS G s w v _ _ _ p)).obj s) _ ho ?_
   refine ⟨Dw w.G hg w.B hB hb 2 _ _ ⟨Tv, ?_⟩, Tv⟩
   refine ⟨2, rfl, by decide, ?_⟩
   have ho2 := zf (a := F) (k5 G s w v o0 o1 (opV w.G w.B 2) p)
   have hc2 := Bn (jg hg w.B 2)
   refine ⟨?_, Tv⟩
   refine za _ rfl (xo rfl (xh (v := opV w.G w.B 2) rfl rfl rfl rfl ?_))
   refine qd (i := ti88) (v := opV w.G w.B 2) (b := s) (o := 0 + 8 + 2 * ti88.size) (l := svC w v o0 o1 _ p) (st2 := F.un (svS G s w v o0 o1 (opV w.G w.B 2) p)) hc2.1 hc2.2 rfl ho (show 10 + 1 <= 12 by decide) ?_ ?_
   ·rw [yx]
    unfold svS
    rw [yr]
    rfl
   refine ⟨Tv, ?_⟩
   refine ⟨2, rfl, by decide, ?_⟩
   refine za (o := (F.un (svS G s w v _ _ _ p)).obj s) _ ho2 ?_
   exact ret (h _ _ _ ⟨hS.hc, Pj hS.hd, hS.hs, hS.hu, hS.h0, hS.h1, .inr rfl⟩)
  ·rw [hne2] at e
   subst e
   refine ACalls.of_body (c := cfg 35) zb Tryz.func136 (by rfl) (by rfl) (by rfl) (by rfl) ?_
   refine ⟨2, rfl, by decide, ?_⟩
   refine za (o := (F.un (svS G s w v _ _ _ p)).obj s) _ ho ?_
   refine fun bb hbb => ?_
   have hbf : bb = false := by
    cases bb with
    | true => cases hbb rfl
    | false => rfl
   subst hbf
   refine ⟨2, rfl, by decide, ?_⟩
   refine za (o := (F.un (svS G s w v _ _ _ p)).obj s) _ ho ?_
   refine ret ?_
   have := h _ _ _ hS
   rw [hne2] at this
   exact this
theorem zra (cs : List Value) : Bl (.tup (cs.map AV.s)) := by
 intro w T w' T' v h
 cases h with
 | tup _ c hl h =>
  refine .tup _ c hl fun i x y hx hy => ?_
  rw [List.getElem?_map] at hx
  cases hc : cs[i]? with
  | none => rw [hc] at hx; cases hx
  | some z =>
   rw [hc] at hx
   cases hx
   have := h i (.s z) y (by rw [List.getElem?_map, hc]; rfl) hy
   cases this
   exact .s _
theorem Lq {g : Store} {v : AV} {l : List Unt} (hv : RowsQ 10 ze g v l) (hl : l.length <= 1000000000000) (hr : yf l) (id : Int) (R : AV -> Store -> Prop)
  (h : ∀ i, Ho l id i -> ∀ z : Bool, (z = true ↔ ∃ hi : i < l.length, l[i].id = id) -> R (.tup [int (i : Nat), V.bool z]) g) : ACalls Tryz.prog 41 [v, int id] g R :=
 ACalls.read (ys := [lst 10 ze l, int id]) (Q := fun r => ∃ (i : Nat) (z : Bool), r = .tup [int (i : Nat), V.bool z] /\ Ho l id i /\ (z = true ↔ ∃ hi : i < l.length, l[i].id = id)) (fun Oth M W vs sto hr => by
  obtain ⟨x, y, rfl, h1, h2⟩ := Fo hr
  exact Reads.cons (hv.borrow xb Mj sto h1) (Reads.cons (qr h2) Reads.nil)) (H6 l hl hr id _ _ fun i hi z hz => ⟨i, z, rfl, hi, hz⟩) (fun r ⟨i, z, e, _⟩ => e ▸ zra [_, _]) (fun r ⟨i, z, e, hi, hz⟩ => e ▸ h i hi z hz)
theorem Sx {F : Store} {s p : Nat} {G : Store} {w : Wld} {v : AV} {L : List Ent} {o0 o1 o2 : AV} (hS : StandR F G s p w v L o0 o1 o2) (hr : yf w.U) (hU : w.U.length <= 1000000) (hn : ∀ u ∈ w.U, u.pos.ok) (hLl : L.length <= w.U.length) (hL : j3 w L) (q : Vc) (hq : q.ok) (r : Int) (hrr : 0 < r /\ r <= 262144) (R : AV -> Store -> Prop)
  (h : ∀ F' us, StandR F' G s p w v L o0 o1 o2 -> Be w q (r + 81920) us -> (us.map (·.id)).Pairwise (· < ·) -> us.length <= 1000000 -> R (lst 10 ze us) (F'.un (svS G s w v o0 o1 o2 p))) : ACalls Tryz.prog 137 [ptr s, .agg (zk q), int r] (F.un (svS G s w v o0 o1 o2 p)) R := by
 have ho := zf (a := F) (k5 G s w v o0 o1 o2 p)
 refine ACalls.of_body (c := cfg 47) zb Tryz.func137 (by rfl) (by rfl) (by rfl) (by rfl) ?_
 refine ADraw.of_sched zb (by rfl) (by rfl) Ni (by rfl) ?_
 refine za (o := (F.un (svS G s w v _ _ _ p)).obj s) _ ho ?_
 refine zc (by omega) ?_
 refine ⟨Px hS.hc hS.hd (by omega) (Hk hL hn) hq (r := r + 81920) ⟨by omega, by omega⟩ _ (fun F' N nv ns g1 g2 g3 g4 g5 g6 => ⟨Tv, ?_⟩), Tv⟩
 have hS' : StandR F' G s p w v L o0 o1 o2 := ⟨g1, g3, hS.hs, hS.hu, hS.h0, hS.h1, hS.h2⟩
 have ho' : ((F'.un N).un (svS G s w v o0 o1 o2 p)).obj s = some (.cells (svC w v o0 o1 o2 p)) := zf (k5 G s w v o0 o1 o2 p)
 have g4' : zi (F'.un N) (svS G s w v o0 o1 o2 p) := disj_un.2 ⟨g3, g4⟩
 have hv : ∃ oa cap, nv = .s (.slice oa ns.length cap) /\ ∀ i, i < ns.length -> ∃ b J, oa = some ⟨b, 0, none⟩ /\ ((F'.un N).un (svS G s w v o0 o1 o2 p)).obj b = some (.cells (ns.map aI ++ J)) := by
  rcases Fz g5 with ⟨rfl, rfl⟩ | ⟨b, cap, J, rfl, hob, _⟩
  ·exact ⟨none, 0, rfl, fun i hi => absurd hi (Nat.not_lt_zero i)⟩
  ·exact ⟨_, cap, rfl, fun i _ => ⟨b, J, rfl, y3 g4' (zf hob)⟩⟩
 obtain ⟨oa, cap, rfl, hget⟩ := hv
 have hrow : RowsQ 10 ze ((F'.un N).un (svS G s w v o0 o1 o2 p)) v w.U := (Iv hS.hs hS.hu).un
 have hnl : ns.length <= w.U.length := by
  have := List.Nodup.length_le_of_subset (l₂ := L.map (·.1)) (g6.1.imp fun h => by omega) (fun id hid => by
   obtain ⟨e, he, h2, _⟩ := (g6.2 id).1 hid
   exact List.mem_map.2 ⟨e, he, h2⟩)
  rw [List.length_map] at this
  omega
 have hfin : ∀ us : List Unt, us.map (·.id) = ns -> (∀ u ∈ us, u ∈ w.U /\ u.inn = 0) -> R (lst 10 ze us) (F'.un (svS G s w v o0 o1 o2 p)) := fun us e1 e2 =>
  h F' us hS' (N5 hr hL g6 e1 e2) (by rw [e1]; exact g6.1) (by
   have := congrArg List.length e1
   rw [List.length_map] at this
   omega)
 have hback := Ov (S := svS G s w v o0 o1 o2 p) g2
 generalize (F'.un N).un (svS G s w v o0 o1 o2 p) = st1 at *
 refine AWp.loop (σ := Nat × AV × List Unt) ⟨fun x => [(0, .av (ptr s)), (6, .av x.2.1), (18, .av (.s (.slice oa ns.length cap))), (19, .av (int (ns.length : Nat))), (20, .av (int (x.1 : Nat)))], fun _ => [],
  fun x st' => x.1 <= ns.length /\ App 10 st1 x.2.1 (rws ze x.2.2) st' /\ x.2.2.map (·.id) = ns.take x.1 /\ ∀ u ∈ x.2.2, u ∈ w.U /\ u.inn = 0, fun x => ns.length - x.1⟩ zb ?_ ?_
 ·exact ⟨(0, _, []), Tv, ⟨Nat.zero_le _, App.start 10 st1, rfl, fun u hu => (by cases hu)⟩, ⟨Tq, Tq, Tq, Tq, Tq, Tv⟩, Tv⟩
 rintro ⟨i, v2, us⟩ st' ⟨hi, ha, hus, hin⟩
 dsimp only at hi ha hus hin ⊢
 refine bcd (fun h1 => ?_) (fun h1 => ?_)
 rotate_left
 ·have : i = ns.length := by omega
  subst this
  rw [List.take_length] at hus
  exact ⟨_, _, AV.le_trans ha.le (Tt), ha.has.trans hback, hfin us hus hin⟩
 have hlt : i < ns.length := by omega
 obtain ⟨b, J, rfl, hob⟩ := hget i hlt
 have hob' : st'.obj b = some (.cells (ns.map aI ++ J)) := by rw [ha.obj]; exact hob
 have hrow' : RowsQ 10 ze st' v w.U := by
  exact hrow.sub fun _ _ _ _ => by rw [ha.obj]
 have hos : st'.obj s = some (.cells (svC w v o0 o1 o2 p)) := by rw [ha.obj]; exact ho'
 refine ⟨i, rfl, hlt, ?_⟩
 refine za (o := st'.obj b) _ hob' ?_
 refine za (o := List.head? _) (int ns[i]) (by
  rw [List.head?_drop, show 0 + i * ti3.size = i from by show 0 + i * 1 = i; omega, List.getElem?_append_left (by simpa using hlt), List.getElem?_map, List.getElem?_eq_getElem hlt]; rfl) ?_
 refine za (o := st'.obj s) _ hos ?_
 refine Lq hrow' (by omega) hr ns[i] _ (fun k hk z hz => ?_)
 obtain ⟨e, he, hid, _⟩ := (g6.2 ns[i]).1 (List.getElem_mem hlt)
 obtain ⟨u, hu, hu0, rfl⟩ := (hL e).1 he
 have hfound : ∃ hk2 : k < w.U.length, w.U[k].id = ns[i] := by
  obtain ⟨j, hj, rfl⟩ := List.getElem_of_mem hu
  have h5 : j >= k := Decidable.byContradiction fun hn2 => by
   have := hk.2.1 j hj (by omega)
   have h6 : (w.U[j]).id = ns[i] := hid
   omega
  have h7 : k < w.U.length := by omega
  refine ⟨h7, ?_⟩
  have h8 := hk.2.2 k h7 (Nat.le_refl _)
  have h6 : (w.U[j]).id = ns[i] := hid
  by_cases e : k = j
  ·subst e; exact h6
  ·have := w8 hr (show k < j by omega) hj
   omega
 obtain ⟨hk2, hk3⟩ := hfound
 refine za (o := st'.obj s) _ hos ?_
 obtain ⟨oa2, cap2, hv2, hget2⟩ := hrow'.form
 obtain ⟨b2, J2, rfl, hob2⟩ := hget2 k hk2
 subst hv2
 refine ⟨k, rfl, hk2, ?_⟩
 refine za (o := st'.obj b2) _ hob2 ?_
 refine qm (i := ti37) (row := ze w.U[k]) rfl rfl (I4 xb hk2) ?_
 refine ⟨by decide, ?_⟩
 have hul : us.length = i := by
  have := congrArg List.length hus
  rw [List.length_map, List.length_take] at this
  omega
 refine Cu (ie := ti37) (rows' := [ze w.U[k]]) ha ?_ ?_ ⟨?_, ?_⟩ (fun v3 st3 ha3 => ?_)
 ·rfl
 ·rfl
 ·simp only [zu, List.length_singleton, ti37]; omega
 ·simp only [zu, List.length_singleton]; omega
 refine zc (by omega) ?_
 have huk : w.U[k] = u := Ca hr (List.getElem_mem hk2) hu (by rw [hk3]; exact hid.symm)
 refine ⟨(i + 1, v3, us ++ [w.U[k]]), ?_, ⟨by dsimp only; omega, ?_, ?_, fun u2 hu2 => ?_⟩, ⟨Tq, Tq, Tq, Tq, Tq, Tv⟩, Tv⟩
 ·show ns.length - (i + 1) < ns.length - i
  omega
 ·dsimp only
  unfold rws at ha3 ⊢
  rw [List.map_append]
  exact ha3
 ·dsimp only
  rw [List.map_append, hus, List.take_succ_eq_append_getElem hlt]
  simp [hk3]
 ·rcases List.mem_append.1 hu2 with h9 | h9
  ·exact hin u2 h9
  ·simp at h9
   subst h9
   rw [huk]
   exact ⟨hu, hu0⟩
theorem zij {F : Store} {s p : Nat} {G : Store} {w : Wld} {v : AV} {L : List Ent} {o0 o1 o2 : AV} (hS : StandR F G s p w v L o0 o1 o2) (hr : yf w.U) (hU : w.U.length <= 1000000) (hn : ∀ u ∈ w.U, u.pos.ok) (hLl : L.length <= w.U.length) (hL : j3 w L) (q : Vc) (hq : q.ok) (r : Int) (hrr : 0 < r /\ r <= 262144) (R : AV -> Store -> Prop)
  (h : ∀ F' us, StandR F' G s p w v L o0 o1 o2 -> Be w q (r + 81920) us -> us.length <= 1000000 -> R (lst 10 ze us) (F'.un (svS G s w v o0 o1 o2 p))) : ACalls Tryz.prog 137 [ptr s, .agg (zk q), int r] (F.un (svS G s w v o0 o1 o2 p)) R :=
 Sx hS hr hU hn hLl hL q hq r hrr R fun F' us a b _ d => h F' us a b d
theorem zia {F : Store} {s p : Nat} {G : Store} {w : Wld} {v : AV} {L : List Ent} {o0 o1 o2 : AV} (hS : StandR F G s p w v L o0 o1 o2) (hg : zl w.G) (hB : w.B.length <= 1000000000000) (hb : ∀ b ∈ w.B, z7 b /\ onP w.G b) (hr : yf w.U) (hU : w.U.length <= 1000000) (hn : ∀ u ∈ w.U, u.pos.ok) (hLl : L.length <= w.U.length) (hL : j3 w L)
  (id k : Int) (q : Vc) (hq : q.ok) (R : AV -> Store -> Prop)
  (h : ∀ z F' q0 q1 q2, (z = true ↔ y5 w id k q) -> StandR F' G s p w v L q0 q1 q2 -> R (V.bool z) (F'.un (svS G s w v q0 q1 q2 p))) : ACalls Tryz.prog 81 [ptr s, int id, int k, .agg (zk q)] (F.un (svS G s w v o0 o1 o2 p)) R := by
 have ho := zf (a := F) (k5 G s w v o0 o1 o2 p)
 have hk := vy k
 have hc := Fy k
 refine ACalls.of_body (c := cfg 56) zb Tryz.func81 (by rfl) (by rfl) (by rfl) (by rfl) ?_
 refine qw k _ _ ?_
 refine ADraw.of_sched zb (by rfl) (by rfl) Nc (by rfl) ?_
 refine za (o := (F.un (svS G s w v _ _ _ p)).obj s) _ ho ?_
 refine ⟨zhu hS hg hB hb (yh k) hc _ (fun a0 a1 a2 hS1 => ⟨?_, ?_⟩), Tv⟩
 ·have ho1 := zf (a := F) (k5 G s w v a0 a1 a2 p)
  repeat (first | exact Tv | refine ⟨rfl, ?_⟩ | refine ⟨za (o := (F.un (svS G s w v a0 a1 a2 p)).obj s) _ ho1 rfl, ?_⟩)
 refine ⟨O4 w.G hg w.B (yh k) q hq (zm k) ⟨hk.1, by omega⟩ _ _ (fun z hz => ⟨Tv, ?_⟩), Tv⟩
 refine z8 ?_
 refine zg (fun c1 => ?_) (fun c1 => ret (h false _ _ _ _ (by simp only [Bool.false_eq_true, false_iff]; exact fun hh => by have := hz.2 hh.1; rw [this] at c1; cases c1) hS1))
 have hfree := hz.1 c1
 refine zij hS1 hr hU hn hLl hL q hq (zm k) ⟨hk.1, by omega⟩ _ (fun F' us hS2 hus hul => ?_)
 have hci := Ps (id := id) hfree hus
 have no : ¬ y5 w id k q -> R (V.bool false) (F'.un (svS G s w v a0 a1 a2 p)) := fun hh => h false _ _ _ _ (by simp only [Bool.false_eq_true, false_iff]; exact hh) hS2
 refine AWp.loop (σ := Nat) ⟨fun i => [(1, .av (int id)), (7, .bx 7 0), (9, .bx 9 0), (32, .av (lst 10 ze us)), (33, .av (int (us.length : Nat))), (34, .av (int (i : Nat)))], fun _ => [(7, zk q), (9, vx k)],
  fun i st' => st' = F'.un (svS G s w v a0 a1 a2 p) /\ i <= us.length /\ ∀ j, (hj : j < us.length) -> j < i -> us[j].id ≠ id -> qo q (zm k) us[j].pos (zm us[j].kind) = true, fun i => us.length - i⟩ zb ?_ ?_
 ·refine ⟨0, Tv, ⟨rfl, Nat.zero_le _, fun j _ hj => by omega⟩, ⟨Tq, Tq, Tq, Tq, ?_, Tq, Tv⟩, ⟨rfl, rfl, Tv⟩⟩
  rw [<- zu (f := ze) us]; exact Tq
 rintro i st' ⟨rfl, hi, hall⟩
 refine bcd (fun h1 => ?_) (fun h1 => ?_)
 rotate_left
 ·refine ret (h true _ _ _ _ (by
   simp only [true_iff]
   refine hci.2 fun u hu hne => ?_
   obtain ⟨j, hj, rfl⟩ := List.getElem_of_mem hu
   exact hall j hj (by omega) hne) hS2)
 have hlt : i < us.length := by omega
 have hui := (hus us[i]).1 (List.getElem_mem hlt)
 have next : (us[i].id ≠ id -> qo q (zm k) us[i].pos (zm us[i].kind) = true) -> ∀ j, (hj : j < us.length) -> j < i + 1 -> us[j].id ≠ id -> qo q (zm k) us[j].pos (zm us[j].kind) = true := fun hh j hj hji => by
  by_cases e : j = i
  ·subst e; exact hh
  ·exact hall j hj (by omega)
 refine ⟨i, rfl, za _ (zj hlt) ?_⟩
 refine ADraw.of_sched zb (by rfl) (by rfl) Nb (by rfl) ?_
 refine qa (fun c2 => ?_) (fun c2 => ?_)
 ·refine ⟨qw us[i].kind _ _ ⟨(by repeat (first | exact Tv | refine ⟨rfl, ?_⟩ | refine ⟨optR (optR (optR (za _ (zd _ _ _) rfl))), ?_⟩)), ?_⟩, Tv⟩
  have hk2 := vy us[i].kind
  refine ⟨P9 q (zm k) us[i].pos (zm us[i].kind) hq (hn _ hui.1.1) ⟨hk.1, by omega⟩ ⟨hk2.1, by omega⟩ _ _ ⟨Tv, ?_⟩, Tv⟩
  refine z8 ?_
  refine zg (fun c3 => ?_) (fun c3 => ?_)
  ·refine zc (by omega) ?_
   refine ⟨i + 1, ?_, ⟨rfl, by omega, next fun _ => c3⟩, ⟨Tq, Tq, Tq, Tq, Tq, Tq, Tv⟩, ⟨rfl, rfl, Tv⟩⟩
   show us.length - (i + 1) < us.length - i
   omega
  ·refine ret (no fun hh => ?_)
   have := hci.1 hh us[i] (List.getElem_mem hlt) c2
   rw [this] at c3; cases c3
 ·refine ⟨⟨(by repeat (first | exact Tv | refine ⟨rfl, ?_⟩ | refine ⟨optR (optR (optR (za _ (zd _ _ _) rfl))), ?_⟩)), ?_⟩, Tv⟩
  refine ⟨⟨Tv, ?_⟩, Tv⟩
  refine zc (by omega) ?_
  refine ⟨i + 1, ?_, ⟨rfl, by omega, next fun hne => absurd c2 hne⟩, ⟨Tq, Tq, Tq, Tq, Tq, Tq, Tv⟩, ⟨rfl, rfl, Tv⟩⟩
  show us.length - (i + 1) < us.length - i
  omega
theorem zmv {F G : Store} {s p : Nat} {w : Wld} {v : AV} {L : List Ent} {o0 o1 o2 : AV} (hS : StandR F G s p w v L o0 o1 o2) (hos : qv v s) (hr : yf w.U) (hU : w.U.length <= 1000000) (hL : L.length <= 1000000) (hok : ∀ e ∈ L, e.2.ok) {i : Nat} (hi : i < w.U.length) (u : Unt) (hid : w.U[i].id = u.id) (hp : u.pos.ok) (R : AV -> Store -> Prop)
  (h : ∀ F' G', StandR F' G' s p { w with U := w.U.set i u } v (ve L u) o0 o1 o2 -> (∀ q, qv v q -> G'.obj q = G.obj q) -> R (.tup []) (F'.un (svS G' s { w with U := w.U.set i u } v o0 o1 o2 p))) :
  ACalls Tryz.prog 95 [ptr s, .agg (ze u)] (F.un (svS G s w v o0 o1 o2 p)) R := by
 have hrow : RowsQ 10 ze (F.un (svS G s w v o0 o1 o2 p)) v w.U := (Iv hS.hs hS.hu).un
 have hs0 : (F.un (svS G s w v o0 o1 o2 p)).obj s = some (.cells (svC w v o0 o1 o2 p)) := zf (k5 _ _ _ _ _ _ _ _)
 rcases hS.hu with (⟨_, hl0⟩ | ⟨b, cap, J, rfl, ho, hc1, hc2, hc3⟩) | ⟨_, _, _, hl0⟩
 ·rw [hl0] at hi; exact absurd hi (Nat.not_lt_zero i)
 rotate_left
 ·rw [hl0] at hi; exact absurd hi (Nat.not_lt_zero i)
 have hbs : b ≠ s := hos b _ _ rfl (by omega)
 have hob : (F.un (svS G s w (.s (.slice (some ⟨b, 0, none⟩) w.U.length cap)) o0 o1 o2 p)).obj b = some (.cells ((rws ze w.U).flatten ++ J)) := zf (by
  show (G.setObj s _).obj b = _
  rw [zq hbs]; exact ho)
 refine ACalls.of_body (c := cfg 44) zb Tryz.func95 (by rfl) (by rfl) (by rfl) (by rfl) ?_
 refine ADraw.of_sched zb (by rfl) (by rfl) Vd (by rfl) ?_
 refine za (o := (F.un (svS G s w _ o0 o1 o2 p)).obj s) _ hs0 ?_
 refine ⟨Lq hrow (by omega) hr u.id _ (fun k hk z hz => ⟨(by repeat (first | exact Tv | refine ⟨rfl, ?_⟩ | refine ⟨optR (optR (optR (za _ (zd _ _ _) rfl))), ?_⟩)), ?_⟩), Tv⟩
 have hki : k = i := by
  by_cases h1 : k < i
  ·have := hk.2.2 k (by omega) (Nat.le_refl _)
   have := Hc hr h1 hi
   omega
  ·by_cases h2 : i < k
   ·have := hk.2.1 i hi h2; omega
   ·omega
 subst hki
 refine ⟨⟨Tv, ?_⟩, Tv⟩
 refine ⟨⟨Tv, ?_⟩, Tv⟩
 refine ADraw.of_sched zb (by rfl) (by rfl) Vb (by rfl) ?_
 refine za (o := (F.un (svS G s w _ o0 o1 o2 p)).obj s) _ hs0 ?_
 refine ⟨k, rfl, hi, ?_⟩
 refine ⟨?_, Tv⟩
 refine za _ rfl (xo rfl (xh (v := .agg (ze u)) rfl rfl rfl rfl ?_))
 refine kf (i := ti37) (v := .agg (ze u)) (xs := ze u) (b := b) (o := 0 + k * 10) (l := (rws ze w.U).flatten ++ J) rfl rfl rfl hob (by rw [List.length_append, k7 xb, xb]; omega) ?_
 have e0 : (F.un (svS G s w (.s (.slice (some ⟨b, 0, none⟩) w.U.length cap)) o0 o1 o2 p)).setObj b (.cells (zy ((rws ze w.U).flatten ++ J) (0 + k * 10) (ze u))) = F.un (svS (G.setObj b (.cells ((rws ze (w.U.set k u)).flatten ++ J))) s { w with U := w.U.set k u } (.s (.slice (some ⟨b, 0, none⟩) w.U.length cap)) o0 o1 o2 p) := by
  rw [Nat.zero_add, Vp xb hi u J, yx]
  unfold svS
  rw [Df hbs]
  rfl
 rw [e0]
 have hG : ∀ q, q ≠ b -> (G.setObj b (.cells ((rws ze (w.U.set k u)).flatten ++ J))).obj q = G.obj q := fun q hq => zq hq
 have hS' : StandR F (G.setObj b (.cells ((rws ze (w.U.set k u)).flatten ++ J))) s p { w with U := w.U.set k u } (.s (.slice (some ⟨b, 0, none⟩) w.U.length cap)) L o0 o1 o2 := by
  refine ⟨hS.hc, fun j h1 h2 => hS.hd j h1 (svS_has.2 ?_), ?_, .inl (.inr ⟨b, cap, J, by rw [List.length_set], zd _ _ _, by rw [List.length_set]; exact hc1, by rw [List.length_set]; exact hc2, hc3⟩), hS.h0, hS.h1, hS.h2⟩
  ·rcases svS_has.1 h2 with h2 | h2
   ·exact .inl h2
   ·rcases has_setObj_iff.1 h2 with rfl | h2
    ·exact .inr (ks ho)
    ·exact .inr h2
  ·rw [hG s (Ne.symm hbs)]; exact hS.hs
 have hoffG : ∀ q, qv (.s (.slice (some ⟨b, 0, none⟩) w.U.length cap)) q -> (G.setObj b (.cells ((rws ze (w.U.set k u)).flatten ++ J))).obj q = G.obj q := fun q hq => hG q (Ne.symm (hq b _ _ rfl (by omega)))
 generalize G.setObj b _ = G1 at hS' hoffG ⊢
 have hs1 : (F.un (svS G1 s { w with U := w.U.set k u } (.s (.slice (some ⟨b, 0, none⟩) w.U.length cap)) o0 o1 o2 p)).obj s = some (.cells (svC w (.s (.slice (some ⟨b, 0, none⟩) w.U.length cap)) o0 o1 o2 p)) := zf (k5 _ _ _ _ _ _ _ _)
 refine ⟨Tv, ?_⟩
 refine yp (fun c1 => ?_) (fun c1 => ?_)
 ·refine ADraw.of_sched zb (by rfl) (by rfl) Va (by rfl) ?_
  refine za (o := (F.un (svS G1 s _ _ o0 o1 o2 p)).obj s) _ hs1 ?_
  refine ⟨H3 hS'.hc hS'.hd (by omega) hok u.id u.pos hp _ (fun F2 h2 h3 => ⟨Tv, ?_⟩), Tv⟩
  have e9 : ve L u = yi L u.id ++ [(u.id, u.pos)] := if_pos c1
  exact ret (h F2 G1 ⟨by rw [e9]; exact h2, h3, hS'.hs, hS'.hu, hS'.h0, hS'.h1, hS'.h2⟩ hoffG)
 ·refine ADraw.of_sched zb (by rfl) (by rfl) S9 (by rfl) ?_
  refine za (o := (F.un (svS G1 s _ _ o0 o1 o2 p)).obj s) _ hs1 ?_
  refine ⟨ep hS'.hc hS'.hd (by omega) hok u.id _ (fun F2 h2 h3 => ⟨Tv, ?_⟩), Tv⟩
  have e9 : ve L u = yi L u.id := if_neg c1
  exact ret (h F2 G1 ⟨by rw [e9]; exact h2, h3, hS'.hs, hS'.hu, hS'.h0, hS'.h1, hS'.h2⟩ hoffG)
set_option maxRecDepth 20000 in
theorem Hh (a b : Int × Int) (st : Store) (R : AV -> Store -> Prop) (h : ∀ z : Bool, (z = true ↔ qlt a b) -> R (bool z) st) : ACalls Tryz.prog 437 [.agg (itC a), .agg (itC b)] st R := by
 refine ACalls.of_body (c := cfg 24) zb Tryz.func437 (by rfl) (by rfl) (by rfl) (by rfl) ?_
 repeat' (first | refine bcd (fun _ => ?_) (fun _ => ?_) | refine zg (fun _ => ?_) (fun _ => ?_) | refine zc (by omega) ?_ | fail)
 all_goals
  refine ret (h _ ?_)
  unfold qlt
  simp only [decide_eq_true_eq, decide_eq_false_iff_not, Bool.false_eq_true, false_iff, true_iff, beq_iff_eq, bne_iff_ne, beq_eq_false_iff_ne, ne_eq, reduceCtorEq] at *
  omega
theorem zmr (S : Store) (R : AV -> Store -> Prop) (h : ∀ p, Fresh S p -> R (ptr p) (S.setObj p (.cells [.s (.slice none 0 0)]))) : ACalls Tryz.prog 433 [] S R := by
 refine ACalls.of_body (c := cfg 3 [2] []) zb Tryz.func433 (by rfl) (by rfl) (by rfl) (by rfl) ?_
 intro p hp
 exact ret (h p hp)
set_option maxHeartbeats 1000000 in
theorem zmj {F : Store} {p : Nat} {l : List (Int × Int)} (hq : QOf F p l) (hl : l.length <= 1000000) (hh : xr l) (x : Int × Int) (R : AV -> Store -> Prop)
  (h : ∀ F' l', QOf F' p l' -> xr l' -> l'.Perm (x :: l) -> R (.tup []) F') : ACalls Tryz.prog 434 [ptr p, int x.1, int x.2] F R := by
 obtain ⟨v, hp, hr, hne⟩ := hq.rows
 refine ACalls.of_body (c := cfg 74) zb Tryz.func434 (by rfl) (by rfl) (by rfl) (by rfl) ?_
 refine za (o := F.obj p) _ hp ?_
 refine ⟨by decide, ?_⟩
 refine ft (ie := ti491) rfl Dp (by decide) hr x rfl (by omega) (fun b cap L q1 q2 q3 q4 => ?_)
 have hbp : b ≠ p := by
  rcases q1 with q1 | ⟨c0, q1⟩
  ·exact fun e => by have := q1.1; rw [e, hp] at this; cases this
  ·exact hne b c0 q1
 have hp2 : (F.setObj b (.cells ((rws itC (l ++ [x])).flatten ++ L))).obj p = some (.cells [v]) := by rw [zq (Ne.symm hbp)]; exact hp
 refine C9 (i := ti487) (v := .s (.slice (some ⟨b, 0, none⟩) (l ++ [x]).length cap)) (b := p) (o := 0) (l := [v]) rfl rfl rfl hp2 (Nat.le_refl 1) ?_
 have hQ : QAt ((F.setObj b (.cells ((rws itC (l ++ [x])).flatten ++ L))).setObj p (.cells (zy [v] 0 [.s (.slice (some ⟨b, 0, none⟩) (l ++ [x]).length cap)]))) p b cap (l ++ [x]) L :=
  ⟨zd _ _ _, by rw [zq hbp]; exact zd _ _ _, hbp, q2, q3, q4⟩
 have hU := zml hh x
 have hP := zmk l x
 have hlen : (l ++ [x]).length = l.length + 1 := by simp
 generalize hm : l ++ [x] = m at hQ hU hP hlen ⊢
 generalize (F.setObj b (.cells ((rws itC m).flatten ++ L))).setObj p _ = F1 at hQ ⊢
 refine za (o := F1.obj p) _ hQ.hp ?_
 refine zc (by omega) ?_
 refine AWp.loop (σ := Nat × Store × List (Int × Int)) ⟨fun q => [(0, .av (ptr p)), (6, .av (int (q.1 : Nat)))], fun _ => [],
  fun q st' => st' = q.2.1 /\ QAt q.2.1 p b cap q.2.2 L /\ UpF (qat q.2.2) q.2.2.length q.1 /\ q.2.2.Perm (x :: l) /\ q.2.2.length = l.length + 1 /\ q.1 < q.2.2.length, fun q => q.1⟩ zb ?_ ?_
 ·refine ⟨(l.length, F1, m), Tv, ⟨rfl, hQ, hU, hP, hlen, by dsimp only; omega⟩, ⟨Tq, ?_, Tv⟩, Tv⟩
  show LV.le (.av (int ((m.length : Int) - 1))) (.av (int (l.length : Nat)))
  rw [show (m.length : Int) - 1 = (l.length : Nat) by omega]
  exact Tq
 rintro ⟨i, F2', m2⟩ F2 ⟨rfl, hQ, hU, hP, hlen, hi⟩
 dsimp only at hQ hU hP hlen hi ⊢
 refine bcd (fun c1 => ?_) (fun c1 => ?_)
 rotate_left
 ·have : i = 0 := by omega
  subst this
  exact ret (h F2 m2 (.inr ⟨b, cap, L, hQ⟩) (V2 hU (.inl rfl)) hP)
 have hpar : ((i : Int) - 1).tdiv 2 = (par i : Nat) := by
  unfold par
  rw [Int.tdiv_eq_ediv_of_nonneg (by omega)]
  omega
 have hpl : par i < m2.length := by have := k8 (show 0 < i by omega); omega
 refine zc (by omega) ?_
 refine ⟨by decide, ?_⟩
 refine zc (by rw [hpar]; omega) ?_
 refine ADraw.of_sched zb (by rfl) (by rfl) zjh (by rfl) ?_
 refine za (o := F2.obj p) _ hQ.hp ?_
 refine ⟨i, rfl, hi, ?_⟩
 refine za (o := F2.obj b) _ hQ.hb ?_
 refine qm (i := ti491) (row := itC (qat m2 i)) rfl rfl (xm hi) ?_
 refine za (o := F2.obj p) _ hQ.hp ?_
 refine ⟨par i, hpar, hpl, ?_⟩
 refine za (o := F2.obj b) _ hQ.hb ?_
 refine qm (i := ti491) (row := itC (qat m2 (par i))) rfl rfl (xm hpl) ?_
 refine ⟨Hh _ _ _ _ (fun z hz => ⟨Tv, ?_⟩), Tv⟩
 refine z8 ?_
 refine zg (fun c2 => ?_) (fun c2 => ?_)
 rotate_left
 ·exact ret (h F2 m2 (.inr ⟨b, cap, L, hQ⟩) (V2 hU (.inr fun hh => by rw [hz.2 hh] at c2; cases c2)) hP)
 obtain ⟨hU2, hP2⟩ := zmi hU (by omega) hi (hz.1 c2)
 have hS1 := hQ.set hi (qat m2 (par i))
 have hpl2 : par i < (m2.set i (qat m2 (par i))).length := by rw [List.length_set]; exact hpl
 have hS2 := hS1.set hpl2 (qat m2 i)
 refine ADraw.of_sched zb (by rfl) (by rfl) zjg (by rfl) ?_
 refine za (o := F2.obj p) _ hQ.hp ?_
 refine za (o := F2.obj p) _ hQ.hp ?_
 refine za (o := F2.obj p) _ hQ.hp ?_
 refine ⟨par i, hpar, hpl, ?_⟩
 refine za (o := F2.obj b) _ hQ.hb ?_
 refine qm (i := ti491) (row := itC (qat m2 (par i))) rfl rfl (xm hpl) ?_
 refine za (o := F2.obj p) _ hQ.hp ?_
 refine ⟨i, rfl, hi, ?_⟩
 refine za (o := F2.obj b) _ hQ.hb ?_
 refine qm (i := ti491) (row := itC (qat m2 i)) rfl rfl (xm hi) ?_
 refine ⟨i, rfl, hi, ?_⟩
 refine ⟨?_, Tv⟩
 refine za _ rfl (xo rfl (xh (v := .agg (itC (qat m2 (par i)))) rfl rfl rfl rfl ?_))
 refine kf (i := ti491) (xs := itC (qat m2 (par i))) rfl rfl rfl hQ.hb (Bg hi _) ?_
 refine ⟨Tv, ?_⟩
 refine ⟨par i, hpar, hpl, ?_⟩
 refine ⟨?_, Tv⟩
 refine za _ rfl (xo rfl (xh (v := .agg (itC (qat m2 i))) rfl rfl rfl rfl ?_))
 refine kf (i := ti491) (xs := itC (qat m2 i)) rfl rfl rfl hS1.hb (Bg hpl2 _) ?_
 refine ⟨Tv, ?_⟩
 have hlen2 : (xk m2 i (par i)).length = m2.length := Ff _ _ _
 refine ⟨(par i, _, xk m2 i (par i)), ?_, ⟨rfl, hS2, hU2, hP2.trans hP, by dsimp only; omega, by dsimp only; omega⟩, ⟨Tq, ?_, Tv⟩, Tv⟩
 ·show par i < i
  exact k8 (by omega)
 ·rw [hpar]; exact Tq
theorem LV.le_int {a b : Int} (h : a = b) : LV.le (.av (int a)) (.av (int b)) := by subst h; exact Tq
set_option maxHeartbeats 2000000 in
theorem zmm {F : Store} {p : Nat} {l : List (Int × Int)} (hq : QOf F p l) (hl : l.length <= 1000000) (hh : xr l) (R : AV -> Store -> Prop)
  (h0 : l = [] -> R (.tup [int 0, int 0, V.bool false]) F)
  (h1 : 0 < l.length -> ∀ F' l', QOf F' p l' -> xr l' -> l.Perm (qat l 0 :: l') -> R (.tup [int (qat l 0).1, int (qat l 0).2, V.bool true]) F') : ACalls Tryz.prog 435 [ptr p] F R := by
 by_cases hz : l.length = 0
 ·have hnil : l = [] := List.eq_nil_of_length_eq_zero hz
  obtain ⟨v, hp, hr, hne⟩ := hq.rows
  have hv : ∃ a c, v = .s (.slice a 0 c) := by
   rcases hr with ⟨rfl, _⟩ | ⟨b, cap, L, rfl, _⟩
   ·exact ⟨_, _, rfl⟩
   ·exact ⟨_, _, by rw [hz]⟩
  obtain ⟨a, c, rfl⟩ := hv
  refine ACalls.of_body (c := cfg 121) zb Tryz.func435 (by rfl) (by rfl) (by rfl) (by rfl) ?_
  refine za (o := F.obj p) _ hp ?_
  refine zc (by omega) ?_
  exact ret (h0 hnil)
 obtain ⟨b, cap, L, hQ⟩ := hq.pos (by omega)
 obtain ⟨n, hn⟩ : ∃ n, l.length = n + 1 := ⟨l.length - 1, by omega⟩
 have hc1 := hQ.h1
 have h0l : 0 < l.length := by omega
 have hnl : n < l.length := by omega
 have hnI : (l.length : Int) - 1 = (n : Nat) := by omega
 refine ACalls.of_body (c := cfg 121) zb Tryz.func435 (by rfl) (by rfl) (by rfl) (by rfl) ?_
 refine za (o := F.obj p) _ hQ.hp ?_
 refine zc (by omega) ?_
 refine bcd (fun c1 => absurd c1 (by omega)) (fun c1 => ?_)
 refine za (o := F.obj p) _ hQ.hp ?_
 refine ⟨0, rfl, h0l, ?_⟩
 refine za (o := F.obj b) _ hQ.hb ?_
 refine qm (i := ti491) (row := itC (qat l 0)) rfl rfl (xm h0l) ?_
 refine ADraw.of_sched zb (by rfl) (by rfl) zje (by rfl) ?_
 refine za (o := F.obj p) _ hQ.hp ?_
 refine za (o := F.obj p) _ hQ.hp ?_
 refine ⟨n, hnI, hnl, ?_⟩
 refine za (o := F.obj b) _ hQ.hb ?_
 refine qm (i := ti491) (row := itC (qat l n)) rfl rfl (xm hnl) ?_
 refine ⟨0, rfl, h0l, ?_⟩
 refine ⟨?_, Tv⟩
 refine za _ rfl (xo rfl (xh (v := .agg (itC (qat l n))) rfl rfl rfl rfl ?_))
 refine kf (i := ti491) (xs := itC (qat l n)) rfl rfl rfl hQ.hb (Bg h0l _) ?_
 refine ⟨Tv, ?_⟩
 have hQ1 := hQ.set h0l (qat l n)
 have hls : (l.set 0 (qat l n)).length = n + 1 := by rw [List.length_set]; exact hn
 refine za _ hQ1.hp ?_
 refine ⟨0, n, rfl, hnI, Nat.zero_le _, by omega, .inl ⟨by omega, ?_⟩⟩
 refine C9 (i := ti487) (v := .s (.slice (some ⟨b, 0, none⟩) n cap)) (b := p) (o := 0) (l := [.s (.slice (some ⟨b, 0, none⟩) (l.set 0 (qat l n)).length cap)]) rfl rfl rfl hQ1.hp (Nat.le_refl 1) ?_
 have hQ2 := hQ1.cut (n := n) (by omega)
 have hD := zmp hn hh
 have hpm := zmn hn
 have hln : ((l.set 0 (qat l n)).take n).length = n := by rw [List.length_take]; omega
 have hfin : ∀ F' l', QOf F' p l' -> xr l' -> l'.Perm ((l.set 0 (qat l n)).take n) -> R (.tup [int (qat l 0).1, int (qat l 0).2, V.bool true]) F' := fun F' l' g1 g2 g3 => h1 h0l F' l' g1 g2 (hpm.trans (List.Perm.cons _ g3.symm))
 generalize (rws itC ((l.set 0 (qat l n)).drop n)).flatten ++ L = L2 at hQ2
 generalize ((l.set 0 (qat l n)).take n) = m0 at hQ2 hD hln hfin
 refine AWp.loop (σ := Nat × Store × List (Int × Int)) ⟨fun q => [(0, .av (ptr p)), (5, .av (int (n : Nat))), (6, .bx 6 0), (7, .av (int (q.1 : Nat)))], fun _ => [(6, itC (qat l 0))],
  fun q st' => st' = q.2.1 /\ QAt q.2.1 p b cap q.2.2 L2 /\ Bq (qat q.2.2) q.2.2.length q.1 /\ q.2.2.Perm m0 /\ q.2.2.length = n /\ q.1 <= n, fun q => n - q.1⟩ zb ?_ ?_
 ·exact ⟨(0, _, m0), Tv, ⟨rfl, hQ2, hD, List.Perm.refl _, hln, Nat.zero_le _⟩, ⟨Tq, LV.le_int hnI, Tq, Tq, Tv⟩, ⟨rfl, Tv⟩⟩
 rintro ⟨i, F2', m⟩ F2 ⟨rfl, hQ, hD, hP, hlen, hin⟩
 dsimp only at hQ hD hP hlen hin ⊢
 refine zc (by omega) ?_
 refine zc (by omega) ?_
 refine bcd (fun c1 => ?_) (fun c1 => ?_)
 ·have hF := hfin F2 m (.inr ⟨b, cap, _, hQ⟩) (zmq hD (by omega)) hP
  refine ADraw.of_sched zb (by rfl) (by rfl) Iy (by rfl) ?_
  refine ⟨⟨⟨rfl, Tv⟩, ⟨⟨Tv, ⟨⟨Tv, ?_⟩, Tv⟩⟩, Tv⟩⟩, Tv⟩
  exact ret hF
 have hil : i < m.length := by omega
 refine ADraw.of_sched zb (by rfl) (by rfl) zjf (by rfl) ?_
 refine zc (by omega) ?_
 refine bcd (fun c3 => ?_) (fun c3 => ?_)
 rotate_left
 ·refine ⟨⟨Tv, ?_⟩, Tv⟩
  have hkl : 2 * i + 1 < m.length := by omega
  have hki : par (2 * i + 1) = i := (Hj (by omega)).2 (.inl rfl)
  have hmin := Pt (f := qat m) (n := m.length) (i := i) (k := 2 * i + 1) (.inl ⟨rfl, fun hx => by omega⟩)
  refine ADraw.of_sched zb (by rfl) (by rfl) Nh (by rfl) ?_
  refine za (o := F2.obj p) _ hQ.hp ?_
  refine ⟨2 * i + 1, by omega, hkl, ?_⟩
  refine za (o := F2.obj b) _ hQ.hb ?_
  refine qm (i := ti491) (row := itC (qat m (2 * i + 1))) rfl rfl (xm hkl) ?_
  refine za (o := F2.obj p) _ hQ.hp ?_
  refine ⟨i, rfl, hil, ?_⟩
  refine za (o := F2.obj b) _ hQ.hb ?_
  refine qm (i := ti491) (row := itC (qat m i)) rfl rfl (xm hil) ?_
  refine ⟨Hh _ _ _ _ (fun z hz => ⟨Tv, ?_⟩), Tv⟩
  refine z8 ?_
  refine zg (fun c2 => ?_) (fun c2 => ?_)
  rotate_left
  ·have hF := hfin F2 m (.inr ⟨b, cap, _, hQ⟩) (Nq hD hmin (fun hh => by rw [hz.2 hh] at c2; cases c2)) hP
   refine ADraw.of_sched zb (by rfl) (by rfl) Iy (by rfl) ?_
   refine ⟨⟨⟨rfl, Tv⟩, ⟨⟨Tv, ⟨⟨Tv, ?_⟩, Tv⟩⟩, Tv⟩⟩, Tv⟩
   exact ret hF
  obtain ⟨hD2, hP2⟩ := Nr hD (by omega) hkl hki hmin (hz.1 c2)
  have hS1 := hQ.set hil (qat m (2 * i + 1))
  have hkl2 : 2 * i + 1 < (m.set i (qat m (2 * i + 1))).length := by rw [List.length_set]; exact hkl
  have hS2 := hS1.set hkl2 (qat m i)
  refine ADraw.of_sched zb (by rfl) (by rfl) Ng (by rfl) ?_
  refine za (o := F2.obj p) _ hQ.hp ?_
  refine za (o := F2.obj p) _ hQ.hp ?_
  refine za (o := F2.obj p) _ hQ.hp ?_
  refine ⟨2 * i + 1, by omega, hkl, ?_⟩
  refine za (o := F2.obj b) _ hQ.hb ?_
  refine qm (i := ti491) (row := itC (qat m (2 * i + 1))) rfl rfl (xm hkl) ?_
  refine za (o := F2.obj p) _ hQ.hp ?_
  refine ⟨i, rfl, hil, ?_⟩
  refine za (o := F2.obj b) _ hQ.hb ?_
  refine qm (i := ti491) (row := itC (qat m i)) rfl rfl (xm hil) ?_
  refine ⟨i, rfl, hil, ?_⟩
  refine ⟨?_, Tv⟩
  refine za _ rfl (xo rfl (xh (v := .agg (itC (qat m (2 * i + 1)))) rfl rfl rfl rfl ?_))
  refine kf (i := ti491) (xs := itC (qat m (2 * i + 1))) rfl rfl rfl hQ.hb (Bg hil _) ?_
  refine ⟨Tv, ?_⟩
  refine ⟨2 * i + 1, by omega, hkl, ?_⟩
  refine ⟨?_, Tv⟩
  refine za _ rfl (xo rfl (xh (v := .agg (itC (qat m i))) rfl rfl rfl rfl ?_))
  refine kf (i := ti491) (xs := itC (qat m i)) rfl rfl rfl hS1.hb (Bg hkl2 _) ?_
  refine ⟨Tv, ?_⟩
  have hlen2 : (xk m i (2 * i + 1)).length = m.length := Ff _ _ _
  refine ⟨(2 * i + 1, _, xk m i (2 * i + 1)), ?_, ⟨rfl, hS2, hD2, hP2.trans hP, by dsimp only; omega, by dsimp only; omega⟩, ⟨Tq, Tq, Tq, ?_, Tv⟩, ⟨rfl, Tv⟩⟩
  ·show n - (2 * i + 1) < n - i
   omega
  ·exact LV.le_int (by omega)
 refine za (o := F2.obj p) _ hQ.hp ?_
 refine zc (by omega) ?_
 have hkl1 : 2 * i + 2 < m.length := by omega
 have hkl0 : 2 * i + 1 < m.length := by omega
 refine ⟨2 * i + 2, by omega, hkl1, ?_⟩
 refine za (o := F2.obj b) _ hQ.hb ?_
 refine qm (i := ti491) (row := itC (qat m (2 * i + 2))) rfl rfl (xm hkl1) ?_
 refine za (o := F2.obj p) _ hQ.hp ?_
 refine ⟨2 * i + 1, by omega, hkl0, ?_⟩
 refine za (o := F2.obj b) _ hQ.hb ?_
 refine qm (i := ti491) (row := itC (qat m (2 * i + 1))) rfl rfl (xm hkl0) ?_
 refine ⟨Hh _ _ _ _ (fun z hz1 => ⟨Tv, ?_⟩), Tv⟩
 refine zg (fun c4 => ?_) (fun c4 => ?_)
 ·refine zc (by omega) ?_
  have hkl : 2 * i + 2 < m.length := hkl1
  have hki : par (2 * i + 2) = i := (Hj (by omega)).2 (.inr rfl)
  have hmin := Pt (f := qat m) (n := m.length) (i := i) (k := 2 * i + 2) (.inr ⟨rfl, hz1.1 c4⟩)
  refine ADraw.of_sched zb (by rfl) (by rfl) Nh (by rfl) ?_
  refine za (o := F2.obj p) _ hQ.hp ?_
  refine ⟨2 * i + 2, by omega, hkl, ?_⟩
  refine za (o := F2.obj b) _ hQ.hb ?_
  refine qm (i := ti491) (row := itC (qat m (2 * i + 2))) rfl rfl (xm hkl) ?_
  refine za (o := F2.obj p) _ hQ.hp ?_
  refine ⟨i, rfl, hil, ?_⟩
  refine za (o := F2.obj b) _ hQ.hb ?_
  refine qm (i := ti491) (row := itC (qat m i)) rfl rfl (xm hil) ?_
  refine ⟨Hh _ _ _ _ (fun z hz => ⟨Tv, ?_⟩), Tv⟩
  refine z8 ?_
  refine zg (fun c2 => ?_) (fun c2 => ?_)
  rotate_left
  ·have hF := hfin F2 m (.inr ⟨b, cap, _, hQ⟩) (Nq hD hmin (fun hh => by rw [hz.2 hh] at c2; cases c2)) hP
   refine ADraw.of_sched zb (by rfl) (by rfl) Iy (by rfl) ?_
   refine ⟨⟨⟨rfl, Tv⟩, ⟨⟨Tv, ⟨⟨Tv, ?_⟩, Tv⟩⟩, Tv⟩⟩, Tv⟩
   exact ret hF
  obtain ⟨hD2, hP2⟩ := Nr hD (by omega) hkl hki hmin (hz.1 c2)
  have hS1 := hQ.set hil (qat m (2 * i + 2))
  have hkl2 : 2 * i + 2 < (m.set i (qat m (2 * i + 2))).length := by rw [List.length_set]; exact hkl
  have hS2 := hS1.set hkl2 (qat m i)
  refine ADraw.of_sched zb (by rfl) (by rfl) Ng (by rfl) ?_
  refine za (o := F2.obj p) _ hQ.hp ?_
  refine za (o := F2.obj p) _ hQ.hp ?_
  refine za (o := F2.obj p) _ hQ.hp ?_
  refine ⟨2 * i + 2, by omega, hkl, ?_⟩
  refine za (o := F2.obj b) _ hQ.hb ?_
  refine qm (i := ti491) (row := itC (qat m (2 * i + 2))) rfl rfl (xm hkl) ?_
  refine za (o := F2.obj p) _ hQ.hp ?_
  refine ⟨i, rfl, hil, ?_⟩
  refine za (o := F2.obj b) _ hQ.hb ?_
  refine qm (i := ti491) (row := itC (qat m i)) rfl rfl (xm hil) ?_
  refine ⟨i, rfl, hil, ?_⟩
  refine ⟨?_, Tv⟩
  refine za _ rfl (xo rfl (xh (v := .agg (itC (qat m (2 * i + 2)))) rfl rfl rfl rfl ?_))
  refine kf (i := ti491) (xs := itC (qat m (2 * i + 2))) rfl rfl rfl hQ.hb (Bg hil _) ?_
  refine ⟨Tv, ?_⟩
  refine ⟨2 * i + 2, by omega, hkl, ?_⟩
  refine ⟨?_, Tv⟩
  refine za _ rfl (xo rfl (xh (v := .agg (itC (qat m i))) rfl rfl rfl rfl ?_))
  refine kf (i := ti491) (xs := itC (qat m i)) rfl rfl rfl hS1.hb (Bg hkl2 _) ?_
  refine ⟨Tv, ?_⟩
  have hlen2 : (xk m i (2 * i + 2)).length = m.length := Ff _ _ _
  refine ⟨(2 * i + 2, _, xk m i (2 * i + 2)), ?_, ⟨rfl, hS2, hD2, hP2.trans hP, by dsimp only; omega, by dsimp only; omega⟩, ⟨Tq, Tq, Tq, ?_, Tv⟩, ⟨rfl, Tv⟩⟩
  ·show n - (2 * i + 2) < n - i
   omega
  ·exact LV.le_int (by omega)
 ·have hkl : 2 * i + 1 < m.length := hkl0
  have hki : par (2 * i + 1) = i := (Hj (by omega)).2 (.inl rfl)
  have hmin := Pt (f := qat m) (n := m.length) (i := i) (k := 2 * i + 1) (.inl ⟨rfl, fun hx hh => by rw [hz1.2 hh] at c4; cases c4⟩)
  refine ADraw.of_sched zb (by rfl) (by rfl) Nh (by rfl) ?_
  refine za (o := F2.obj p) _ hQ.hp ?_
  refine ⟨2 * i + 1, by omega, hkl, ?_⟩
  refine za (o := F2.obj b) _ hQ.hb ?_
  refine qm (i := ti491) (row := itC (qat m (2 * i + 1))) rfl rfl (xm hkl) ?_
  refine za (o := F2.obj p) _ hQ.hp ?_
  refine ⟨i, rfl, hil, ?_⟩
  refine za (o := F2.obj b) _ hQ.hb ?_
  refine qm (i := ti491) (row := itC (qat m i)) rfl rfl (xm hil) ?_
  refine ⟨Hh _ _ _ _ (fun z hz => ⟨Tv, ?_⟩), Tv⟩
  refine z8 ?_
  refine zg (fun c2 => ?_) (fun c2 => ?_)
  rotate_left
  ·have hF := hfin F2 m (.inr ⟨b, cap, _, hQ⟩) (Nq hD hmin (fun hh => by rw [hz.2 hh] at c2; cases c2)) hP
   refine ADraw.of_sched zb (by rfl) (by rfl) Iy (by rfl) ?_
   refine ⟨⟨⟨rfl, Tv⟩, ⟨⟨Tv, ⟨⟨Tv, ?_⟩, Tv⟩⟩, Tv⟩⟩, Tv⟩
   exact ret hF
  obtain ⟨hD2, hP2⟩ := Nr hD (by omega) hkl hki hmin (hz.1 c2)
  have hS1 := hQ.set hil (qat m (2 * i + 1))
  have hkl2 : 2 * i + 1 < (m.set i (qat m (2 * i + 1))).length := by rw [List.length_set]; exact hkl
  have hS2 := hS1.set hkl2 (qat m i)
  refine ADraw.of_sched zb (by rfl) (by rfl) Ng (by rfl) ?_
  refine za (o := F2.obj p) _ hQ.hp ?_
  refine za (o := F2.obj p) _ hQ.hp ?_
  refine za (o := F2.obj p) _ hQ.hp ?_
  refine ⟨2 * i + 1, by omega, hkl, ?_⟩
  refine za (o := F2.obj b) _ hQ.hb ?_
  refine qm (i := ti491) (row := itC (qat m (2 * i + 1))) rfl rfl (xm hkl) ?_
  refine za (o := F2.obj p) _ hQ.hp ?_
  refine ⟨i, rfl, hil, ?_⟩
  refine za (o := F2.obj b) _ hQ.hb ?_
  refine qm (i := ti491) (row := itC (qat m i)) rfl rfl (xm hil) ?_
  refine ⟨i, rfl, hil, ?_⟩
  refine ⟨?_, Tv⟩
  refine za _ rfl (xo rfl (xh (v := .agg (itC (qat m (2 * i + 1)))) rfl rfl rfl rfl ?_))
  refine kf (i := ti491) (xs := itC (qat m (2 * i + 1))) rfl rfl rfl hQ.hb (Bg hil _) ?_
  refine ⟨Tv, ?_⟩
  refine ⟨2 * i + 1, by omega, hkl, ?_⟩
  refine ⟨?_, Tv⟩
  refine za _ rfl (xo rfl (xh (v := .agg (itC (qat m i))) rfl rfl rfl rfl ?_))
  refine kf (i := ti491) (xs := itC (qat m i)) rfl rfl rfl hS1.hb (Bg hkl2 _) ?_
  refine ⟨Tv, ?_⟩
  have hlen2 : (xk m i (2 * i + 1)).length = m.length := Ff _ _ _
  refine ⟨(2 * i + 1, _, xk m i (2 * i + 1)), ?_, ⟨rfl, hS2, hD2, hP2.trans hP, by dsimp only; omega, by dsimp only; omega⟩, ⟨Tq, Tq, Tq, ?_, Tv⟩, ⟨rfl, Tv⟩⟩
  ·show n - (2 * i + 1) < n - i
   omega
  ·exact LV.le_int (by omega)
theorem vw {p : Vc} (h : qj p) : p.ok := by
 unfold qj at h
 exact ⟨⟨by omega, by omega⟩, ⟨by omega, by omega⟩⟩
theorem zm4 {p q : Vc} (hp : qj p) (hq : qj q) : jz (if y8 p q = (0, 0) then (65536, 0) else y8 p q) := by
 split
 ·unfold jz; decide
 ·exact Ij hq hp
theorem zlk {v : Vc} (h : jz v) : 0 <= xc (sqr v) := (Fl (Dc (C7 h)).2.2.1).1
set_option maxRecDepth 10000 in
theorem ziq (p : Vc) (r : Int) (q : Vc) (hp : qj p) (hq : qj q) (hr : 0 <= r /\ r <= 1048576) (st : Store) (R : AV -> Store -> Prop) (h : R (.agg (zk (kg p r q))) st) :
  ACalls Tryz.prog 227 [.agg (zk p), int r, .agg (zk q)] st R := by
 have ht := Ij hq hp
 have hsq := (Dc (C7 ht)).2.2.1
 have hr0 := zlk ht
 have harg := zm4 hp hq
 have hri := Fl hsq
 unfold kg at h
 refine ACalls.of_body (c := cfg 29) zb Tryz.func227 (by rfl) (by rfl) (by rfl) (by rfl) ?_
 refine Ih p q r (vw hp) (vw hq) (by omega) _ _ ?_
 refine z8 ?_
 refine zg (fun c1 => ?_) (fun c1 => ?_)
 rotate_left
 ·rw [if_neg (by rw [c1]; decide)] at h
  exact ret h
 rw [if_pos c1] at h
 refine Mb p q (vw hp) (vw hq) _ _ ?_
 refine W6 _ (Gs p q) _ _ (fun L hL => ?_)
 have hL2 := Vs hsq hL
 subst hL2
 have hLb : xc (sqr (y8 p q)) <= 1099511627776 * 2 := by
  obtain ⟨_, _, h3, _⟩ := hri
  have e := (Dc (C7 ht)).1
  unfold jz at ht
  generalize xc (sqr (y8 p q)) = L at *
  by_cases hh : L <= 1099511627776 * 2
  ·exact hh
  ·exfalso
   have h4 : (1099511627776 * 2 + 1) * (1099511627776 * 2 + 1) <= L * L := Int.mul_le_mul (by omega) (by omega) (by omega) (by omega)
   have h5 : (y8 p q).1 * (y8 p q).1 <= 1099511627776 * 1099511627776 := by
    rw [Gn]
    exact Int.mul_le_mul (by omega) (by omega) (by omega) (by omega)
   have h6 : (y8 p q).2 * (y8 p q).2 <= 1099511627776 * 1099511627776 := by
    rw [Gn]
    exact Int.mul_le_mul (by omega) (by omega) (by omega) (by omega)
   omega
 have hfs : yc r (xc (sqr (y8 p q))) = r - xc (sqr (y8 p q)) := by
  unfold yc
  rw [vq (by omega), O9 (by omega) (by omega)]
  omega
 refine Bw _ _ ⟨by omega, by omega⟩ ⟨by omega, by omega⟩ _ _ ?_
 rw [hfs]
 generalize xc (sqr (y8 p q)) = L at *
 generalize y8 p q = d at *
 refine zg (fun c2 => ?_) (fun c2 => ?_)
 ·have c2 : d = (0, 0) := by
   simp only [Bool.and_eq_true, beq_iff_eq] at c2
   exact Prod.ext c2.1 c2.2.1
  rw [if_pos c2] at h harg
  subst c2
  refine Li (65536, 0) (r - L) harg (by omega) _ _ ?_
  exact ret h
 ·have c2 : ¬ d = (0, 0) := fun e => by
   rw [e] at c2
   exact absurd c2 (by decide)
  rw [if_neg c2] at h harg
  refine Li d (r - L) harg (by omega) _ _ ?_
  exact ret h
theorem Rs {v : Vc} {m : Int} (hs : jz v) : (xg v m).ok := by
 by_cases hm : 0 <= m
 ·have := (ec (C7 hs) hm).1
  unfold vk at this
  exact ⟨⟨by omega, by omega⟩, ⟨by omega, by omega⟩⟩
 ·have e : xg v m = xg v 0 := by
   unfold xg
   rw [show max m 0 = max 0 0 by omega]
  rw [e]
  have := (ec (C7 hs) (Int.le_refl 0)).1
  unfold vk at this
  exact ⟨⟨by omega, by omega⟩, ⟨by omega, by omega⟩⟩
end Go.Proofs
