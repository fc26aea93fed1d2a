/- The ground on which laws of thronglaw31 are proved: contracts of functions and plain lemmas; no condition beyond the row's own. -/
import Derived.Test.YtlidamnkhidljaaGreatKM
import Derived.Test.YtlidamnkhidljaaGreatKF
import Derived.Test.YtlidamnkhidljaaGreatKI
import Derived.Test.YtlidamnkhidljaaGreatKK
set_option linter.unusedSimpArgs false
set_option linter.unusedVariables false
namespace Go.Proofs
open Go Go.V
set_option maxRecDepth 4000
def stC (w : Wld) (o0 o1 o2 : AV) (p : Nat) : List AV := wldC w ++ [o0, o1, o2, ptr p]
def stS (s : Nat) (w : Wld) (o0 o1 o2 : AV) (p : Nat) : Store := Store.empty.setObj s (.cells (stC w o0 o1 o2 p))
def opOK (w : Wld) (c : Int) (o : AV) : Prop := o = .s (.slice none 0 0) \/ o = opV w.G w.B c
/-- A stand: who stands in its cells. -/
structure StandAt (F : Store) (s p : Nat) (w : Wld) (L : List Ent) (o0 o1 o2 : AV) : Prop where
 hc : CellsOf F p L
 hd : Disj F (stS s w o0 o1 o2 p)
 h0 : opOK w 0 o0
 h1 : opOK w 1 o1
 h2 : opOK w 2 o2
theorem jh (s : Nat) (w : Wld) (o0 o1 o2 : AV) (p : Nat) : (stS s w o0 o1 o2 p).obj s = some (.cells (stC w o0 o1 o2 p)) := zb _ _ _
theorem stS_has {s : Nat} {w : Wld} {o0 o1 o2 : AV} {p i : Nat} : (stS s w o0 o1 o2 p).has i ↔ i = s := by
 unfold Store.has stS
 constructor
 ·rintro (h | h)
  ·apply Decidable.byContradiction
   intro hn
   rw [zc hn] at h
   exact h rfl
  ·exact absurd rfl h
 ·rintro rfl
  exact .inl (by rw [zb]; simp)
theorem zd3 {F : Store} {s : Nat} {w : Wld} {o0 o1 o2 q0 q1 q2 : AV} {p : Nat} (h : Disj F (stS s w o0 o1 o2 p)) : Disj F (stS s w q0 q1 q2 p) := fun i h1 h2 => h i h1 (stS_has.2 (stS_has.1 h2))
theorem zkk {l : List Unt} (hr : xn l) {a b : Nat} (hab : a < b) (hb : b < l.length) : (l[a]'(by omega)).id < l[b].id := by
 induction b with
 | zero => omega
 | succ b ih =>
  have h3 := hr (b + 1) hb (by omega)
  simp only [Nat.add_sub_cancel] at h3
  by_cases e : a = b
  ·subst e; exact h3
  ·have := ih (by omega) (by omega)
   omega
theorem zkw (w : Wld) (hU : w.U.length <= 1000000) (hn : ∀ u ∈ w.U, u.pos.ok) (R : AV -> Store -> Prop)
  (h : ∀ F s p L o0 o1 o2, StandAt F s p w L o0 o1 o2 -> L.length <= w.U.length -> (xn w.U -> ∀ e, e ∈ L ↔ ∃ u ∈ w.U, u.inn = 0 /\ e = (u.id, u.pos)) -> R (ptr s) (F.un (stS s w o0 o1 o2 p))) : ACalls Tryz.prog 46 [.agg (wldC w)] Store.empty R := by
 refine ACalls.of_body (c := cfg 31 [9] []) zd Tryz.func46 (by rfl) (by rfl) (by rfl) (by rfl) ?_
 refine ADraw.of_sched zd (by rfl) (by rfl) zuo (by rfl) ?_
 refine ⟨zd9 _ (fun F p hc => ⟨(by repeat (first | exact Tv | refine ⟨rfl, ?_⟩ | refine ⟨optR (optR (optR (za _ (zb _ _ _) rfl))), ?_⟩)), ?_⟩), Tv⟩
 refine ⟨fun s hs => ⟨Tv, ?_⟩, Tv⟩
 refine ⟨⟨Tv, ?_⟩, Tv⟩
 have e0 : F.setObj s (.cells (stC w (.s (.slice none 0 0)) (.s (.slice none 0 0)) (.s (.slice none 0 0)) p)) = F.un (stS s w (.s (.slice none 0 0)) (.s (.slice none 0 0)) (.s (.slice none 0 0)) p) := by
  exact zu F Store.empty s _
 have h0 : StandAt F s p w [] (.s (.slice none 0 0)) (.s (.slice none 0 0)) (.s (.slice none 0 0)) := ⟨hc, fun i h1 h2 => by
  have := stS_has.1 h2
  subst this
  exact (fresh_iff.1 hs) h1, .inl rfl, .inl rfl, .inl rfl⟩
 refine AWp.loop (σ := Nat × Store × List Ent) ⟨fun q => [(3, .av (ptr s)), (11, .av (lst 10 untC w.U)), (12, .av (int (w.U.length : Nat))), (13, .av (int (q.1 : Nat)))], fun _ => [],
  fun q st' => st' = q.2.1.un (stS s w (.s (.slice none 0 0)) (.s (.slice none 0 0)) (.s (.slice none 0 0)) p) /\ StandAt q.2.1 s p w q.2.2 (.s (.slice none 0 0)) (.s (.slice none 0 0)) (.s (.slice none 0 0)) /\ q.1 <= w.U.length /\ q.2.2.length <= q.1 /\ (∀ e ∈ q.2.2, e.2.ok) /\ (xn w.U -> ∀ e, e ∈ q.2.2 ↔ ∃ u ∈ w.U.take q.1, u.inn = 0 /\ e = (u.id, u.pos)), fun q => w.U.length - q.1⟩ zd ?_ ?_
 ·refine ⟨(0, F, []), Tv, ⟨e0, h0, Nat.zero_le _, Nat.le_refl _, fun e he => (by cases he), fun _ e => (by simp)⟩, ⟨Tq, Tq, ?_, Tq, Tv⟩, Tv⟩
  rw [<- zi (f := untC) w.U]; exact Tq
 rintro ⟨i, F1, L⟩ st' ⟨rfl, hS, hi, hL, hok, hmem⟩
 dsimp only at hS hi hL hok hmem ⊢
 refine bcd (fun h1 => ?_) (fun h1 => ?_)
 rotate_left
 ·have : i = w.U.length := by omega
  subst this
  rw [List.take_length] at hmem
  exact ret (h F1 s p L _ _ _ hS hL hmem)
 have hlt : i < w.U.length := by omega
 refine ⟨i, rfl, za _ (zg hlt) ?_⟩
 have hn2 := hn w.U[i] (List.getElem_mem hlt)
 refine bceq (fun c1 => ?_) (fun c1 => ?_)
 ·refine ADraw.of_sched zd (by rfl) (by rfl) zun (by rfl) ?_
  refine za (o := (F1.un (stS s w _ _ _ p)).obj s) _ (un_r (jh s w _ _ _ p)) ?_
  refine ⟨zwm hS.hc hS.hd (by omega) hok w.U[i].id w.U[i].pos hn2 _ (fun F2 h2 h3 => ⟨Tv, ?_⟩), Tv⟩
  have hlen : (ye L w.U[i].id ++ [(w.U[i].id, w.U[i].pos)]).length <= i + 1 := by
   rw [List.length_append]
   have : (ye L w.U[i].id).length <= L.length := List.length_filter_le _ _
   simp only [List.length_singleton]; omega
  refine in64 (by omega) ?_
  refine ⟨(i + 1, F2, _), ?_, ⟨rfl, ⟨h2, h3, .inl rfl, .inl rfl, .inl rfl⟩, by dsimp only; omega, hlen, fun e he => ?_, fun hr e => ?_⟩, ⟨Tq, Tq, Tq, Tq, Tv⟩, Tv⟩
  ·show w.U.length - (i + 1) < w.U.length - i
   omega
  ·rcases List.mem_append.1 he with he | he
   ·exact hok e (mem_dropId.1 he).1
   ·simp at he; subst he; exact hn2
  ·dsimp only
   rw [List.take_succ_eq_append_getElem hlt, List.mem_append, mem_dropId, hmem hr e]
   constructor
   ·rintro (⟨⟨u, hu, h4⟩, _⟩ | he)
    ·exact ⟨u, List.mem_append.2 (.inl hu), h4⟩
    ·simp at he
     exact ⟨w.U[i], List.mem_append.2 (.inr (by simp)), c1, he⟩
   ·rintro ⟨u, hu, h4, h5⟩
    rcases List.mem_append.1 hu with hu | hu
    ·refine .inl ⟨⟨u, hu, h4, h5⟩, ?_⟩
     obtain ⟨j, hj, rfl⟩ := List.getElem_of_mem hu
     rw [List.length_take] at hj
     rw [List.getElem_take] at h5
     have := zkk hr (a := j) (b := i) (by omega) hlt
     subst h5
     show w.U[j].id ≠ w.U[i].id
     omega
    ·simp at hu
     subst hu
     exact .inr (by simp [h5])
 ·refine in64 (by omega) ?_
  refine ⟨(i + 1, F1, L), ?_, ⟨rfl, hS, by dsimp only; omega, by dsimp only; omega, hok, fun hr e => ?_⟩, ⟨Tq, Tq, Tq, Tq, Tv⟩, Tv⟩
  ·show w.U.length - (i + 1) < w.U.length - i
   omega
  ·dsimp only
   rw [hmem hr e, List.take_succ_eq_append_getElem hlt]
   constructor
   ·rintro ⟨u, hu, h3⟩; exact ⟨u, List.mem_append.2 (.inl hu), h3⟩
   ·rintro ⟨u, hu, h3, h4⟩
    rcases List.mem_append.1 hu with hu | hu
    ·exact ⟨u, hu, h3, h4⟩
    ·simp at hu
     subst hu
     exact absurd h3 c1
theorem zcy {g : Gnd} (hg : gndP g) (l : List Bld) (c : Int) : ∃ x y, opV g l c = .lst 1 (x :: y) none := by
 have ha := z7 hg
 unfold opV lst
 cases h : rws zaz (blL g.T.length (qh g l c)) with
 | nil =>
  have := zi (f := zaz) (blL g.T.length (qh g l c))
  rw [h, w9] at this
  simp at this
  omega
 | cons x y => exact ⟨x, y, rfl⟩
theorem zd8 {v : AV} (h : ∃ x y, v = .lst 1 (x :: y) none) : cellsOf v = some [v] /\ v.one = true := by
 obtain ⟨x, y, rfl⟩ := h
 exact ⟨rfl, rfl⟩
theorem zf8 {F : Store} {s p : Nat} {w : Wld} {L : List Ent} {o0 o1 o2 : AV} (hS : StandAt F s p w L o0 o1 o2) (hg : gndP w.G) (hB : w.B.length <= 1000000000000) (hb : ∀ b ∈ w.B, bldP b /\ onP w.G b) (c : Int) (hc : c = 0 \/ c = 1 \/ c = 2) (R : AV -> Store -> Prop)
  (h : ∀ q0 q1 q2, StandAt F s p w L q0 q1 q2 -> R (opV w.G w.B c) (F.un (stS s w q0 q1 q2 p))) : ACalls Tryz.prog 72 [ptr s, int c] (F.un (stS s w o0 o1 o2 p)) R := by
 have ho := un_r (a := F) (jh s w o0 o1 o2 p)
 obtain ⟨x0, y0, hne0⟩ := zcy hg w.B 0
 obtain ⟨x1, y1, hne1⟩ := zcy hg w.B 1
 obtain ⟨x2, y2, hne2⟩ := zcy hg w.B 2
 rcases hc with rfl | rfl | rfl
 ·rcases hS.h0 with e | e
  ·subst e
   refine ACalls.of_body (c := cfg 35) zd Tryz.func72 (by rfl) (by rfl) (by rfl) (by rfl) ?_
   refine ⟨0, rfl, by decide, ?_⟩
   refine za (o := (F.un (stS s w _ _ _ p)).obj s) _ ho ?_
   refine ADraw.of_sched zd (by rfl) (by rfl) zge (by rfl) ?_
   refine za (o := (F.un (stS s w _ _ _ p)).obj s) _ ho ?_
   refine za (o := (F.un (stS s w _ _ _ p)).obj s) _ ho ?_
   refine ⟨vj w.G hg w.B hB hb 0 _ _ ⟨Tv, ?_⟩, Tv⟩
   refine ⟨0, rfl, by decide, ?_⟩
   have ho2 := un_r (a := F) (jh s w (opV w.G w.B 0) o1 o2 p)
   have hc2 := zd8 (zcy hg w.B 0)
   refine ⟨?_, Tv⟩
   refine za _ rfl (xp rfl (x5 (v := opV w.G w.B 0) rfl rfl rfl rfl ?_))
   refine zp (i := ti59) (v := opV w.G w.B 0) (b := s) (o := 0 + 8 + 0 * ti59.size) (l := stC w _ o1 o2 p) (st2 := F.un (stS s w (opV w.G w.B 0) o1 o2 p)) hc2.1 hc2.2 rfl ho (show 8 + 1 <= 12 by decide) ?_ ?_
   ·rw [zu]
    unfold stS
    rw [zk]
    rfl
   refine ⟨Tv, ?_⟩
   refine ⟨0, rfl, by decide, ?_⟩
   refine za (o := (F.un (stS s w _ _ _ p)).obj s) _ ho2 ?_
   exact ret (h _ _ _ ⟨hS.hc, zd3 hS.hd, .inr rfl, hS.h1, hS.h2⟩)
  ·rw [hne0] at e
   subst e
   refine ACalls.of_body (c := cfg 35) zd Tryz.func72 (by rfl) (by rfl) (by rfl) (by rfl) ?_
   refine ⟨0, rfl, by decide, ?_⟩
   refine za (o := (F.un (stS s w _ _ _ p)).obj s) _ ho ?_
   refine fun bb hbb => ?_
   have hbf : bb = false := by
    cases bb with
    | true => cases hbb rfl
    | false => rfl
   subst hbf
   refine ⟨0, rfl, by decide, ?_⟩
   refine za (o := (F.un (stS s w _ _ _ p)).obj s) _ ho ?_
   refine ret ?_
   have := h _ _ _ hS
   rw [hne0] at this
   exact this
 ·rcases hS.h1 with e | e
  ·subst e
   refine ACalls.of_body (c := cfg 35) zd Tryz.func72 (by rfl) (by rfl) (by rfl) (by rfl) ?_
   refine ⟨1, rfl, by decide, ?_⟩
   refine za (o := (F.un (stS s w _ _ _ p)).obj s) _ ho ?_
   refine ADraw.of_sched zd (by rfl) (by rfl) zge (by rfl) ?_
   refine za (o := (F.un (stS s w _ _ _ p)).obj s) _ ho ?_
   refine za (o := (F.un (stS s w _ _ _ p)).obj s) _ ho ?_
   refine ⟨vj w.G hg w.B hB hb 1 _ _ ⟨Tv, ?_⟩, Tv⟩
   refine ⟨1, rfl, by decide, ?_⟩
   have ho2 := un_r (a := F) (jh s w o0 (opV w.G w.B 1) o2 p)
   have hc2 := zd8 (zcy hg w.B 1)
   refine ⟨?_, Tv⟩
   refine za _ rfl (xp rfl (x5 (v := opV w.G w.B 1) rfl rfl rfl rfl ?_))
   refine zp (i := ti59) (v := opV w.G w.B 1) (b := s) (o := 0 + 8 + 1 * ti59.size) (l := stC w o0 _ o2 p) (st2 := F.un (stS s w o0 (opV w.G w.B 1) o2 p)) hc2.1 hc2.2 rfl ho (show 9 + 1 <= 12 by decide) ?_ ?_
   ·rw [zu]
    unfold stS
    rw [zk]
    rfl
   refine ⟨Tv, ?_⟩
   refine ⟨1, rfl, by decide, ?_⟩
   refine za (o := (F.un (stS s w _ _ _ p)).obj s) _ ho2 ?_
   exact ret (h _ _ _ ⟨hS.hc, zd3 hS.hd, hS.h0, .inr rfl, hS.h2⟩)
  ·rw [hne1] at e
   subst e
   refine ACalls.of_body (c := cfg 35) zd Tryz.func72 (by rfl) (by rfl) (by rfl) (by rfl) ?_
   refine ⟨1, rfl, by decide, ?_⟩
   refine za (o := (F.un (stS s w _ _ _ p)).obj s) _ ho ?_
   refine fun bb hbb => ?_
   have hbf : bb = false := by
    cases bb with
    | true => cases hbb rfl
    | false => rfl
   subst hbf
   refine ⟨1, rfl, by decide, ?_⟩
   refine za (o := (F.un (stS s w _ _ _ p)).obj s) _ ho ?_
   refine ret ?_
   have := h _ _ _ hS
   rw [hne1] at this
   exact this
 ·rcases hS.h2 with e | e
  ·subst e
   refine ACalls.of_body (c := cfg 35) zd Tryz.func72 (by rfl) (by rfl) (by rfl) (by rfl) ?_
   refine ⟨2, rfl, by decide, ?_⟩
   refine za (o := (F.un (stS s w _ _ _ p)).obj s) _ ho ?_
   refine ADraw.of_sched zd (by rfl) (by rfl) zge (by rfl) ?_
   refine za (o := (F.un (stS s w _ _ _ p)).obj s) _ ho ?_
   refine za (o := (F.un (stS s w _ _ _ p)).obj s) _ ho ?_
   refine ⟨vj w.G hg w.B hB hb 2 _ _ ⟨Tv, ?_⟩, Tv⟩
   refine ⟨2, rfl, by decide, ?_⟩
   have ho2 := un_r (a := F) (jh s w o0 o1 (opV w.G w.B 2) p)
   have hc2 := zd8 (zcy hg w.B 2)
   refine ⟨?_, Tv⟩
   refine za _ rfl (xp rfl (x5 (v := opV w.G w.B 2) rfl rfl rfl rfl ?_))
   refine zp (i := ti59) (v := opV w.G w.B 2) (b := s) (o := 0 + 8 + 2 * ti59.size) (l := stC w o0 o1 _ p) (st2 := F.un (stS s w o0 o1 (opV w.G w.B 2) p)) hc2.1 hc2.2 rfl ho (show 10 + 1 <= 12 by decide) ?_ ?_
   ·rw [zu]
    unfold stS
    rw [zk]
    rfl
   refine ⟨Tv, ?_⟩
   refine ⟨2, rfl, by decide, ?_⟩
   refine za (o := (F.un (stS s w _ _ _ p)).obj s) _ ho2 ?_
   exact ret (h _ _ _ ⟨hS.hc, zd3 hS.hd, hS.h0, hS.h1, .inr rfl⟩)
  ·rw [hne2] at e
   subst e
   refine ACalls.of_body (c := cfg 35) zd Tryz.func72 (by rfl) (by rfl) (by rfl) (by rfl) ?_
   refine ⟨2, rfl, by decide, ?_⟩
   refine za (o := (F.un (stS s w _ _ _ p)).obj s) _ ho ?_
   refine fun bb hbb => ?_
   have hbf : bb = false := by
    cases bb with
    | true => cases hbb rfl
    | false => rfl
   subst hbf
   refine ⟨2, rfl, by decide, ?_⟩
   refine za (o := (F.un (stS s w _ _ _ p)).obj s) _ ho ?_
   refine ret ?_
   have := h _ _ _ hS
   rw [hne2] at this
   exact this
theorem zh8 {F : Store} {s p : Nat} {w : Wld} {L : List Ent} {o0 o1 o2 : AV} (hS : StandAt F s p w L o0 o1 o2) (hr : xn w.U) (hU : w.U.length <= 1000000) (hn : ∀ u ∈ w.U, u.pos.ok) (hLl : L.length <= w.U.length) (hL : zdo w L) (q : Vc) (hq : q.ok) (r : Int) (hrr : 0 < r /\ r <= 262144) (R : AV -> Store -> Prop)
  (h : ∀ F' us, StandAt F' s p w L o0 o1 o2 -> zuy w q (r + 81920) us -> us.length <= 1000000 -> R (lst 10 untC us) (F'.un (stS s w o0 o1 o2 p))) : ACalls Tryz.prog 73 [ptr s, .agg (vecC q), int r] (F.un (stS s w o0 o1 o2 p)) R := by
 have ho := un_r (a := F) (jh s w o0 o1 o2 p)
 refine ACalls.of_body (c := cfg 47) zd Tryz.func73 (by rfl) (by rfl) (by rfl) (by rfl) ?_
 refine ADraw.of_sched zd (by rfl) (by rfl) zua (by rfl) ?_
 refine za (o := (F.un (stS s w _ _ _ p)).obj s) _ ho ?_
 refine in64 (by omega) ?_
 refine ⟨zwa hS.hc hS.hd (by omega) (ziq hL hn) hq (r := r + 81920) ⟨by omega, by omega⟩ _ (fun F' N v ns g1 g2 g3 g4 g5 g6 => ⟨Tv, ?_⟩), Tv⟩
 have hS' : StandAt F' s p w L o0 o1 o2 := ⟨g1, g3, hS.h0, hS.h1, hS.h2⟩
 have ho' : ((F'.un N).un (stS s w o0 o1 o2 p)).obj s = some (.cells (stC w o0 o1 o2 p)) := un_r (jh s w o0 o1 o2 p)
 have g4' : Disj (F'.un N) (stS s w o0 o1 o2 p) := disj_un.2 ⟨g3, g4⟩
 have hv : ∃ oa cap, v = .s (.slice oa ns.length cap) /\ ∀ i, i < ns.length -> ∃ b J, oa = some ⟨b, 0, none⟩ /\ ((F'.un N).un (stS s w o0 o1 o2 p)).obj b = some (.cells (ns.map aI ++ J)) := by
  rcases jo g5 with ⟨rfl, rfl⟩ | ⟨b, cap, J, rfl, hob, _⟩
  ·exact ⟨none, 0, rfl, fun i hi => absurd hi (Nat.not_lt_zero i)⟩
  ·exact ⟨_, cap, rfl, fun i _ => ⟨b, J, rfl, un_l g4' (un_r hob)⟩⟩
 obtain ⟨oa, cap, rfl, hget⟩ := hv
 have hnl : ns.length <= w.U.length := by
  have := List.Nodup.length_le_of_subset (l₂ := L.map (·.1)) (g6.1.imp fun h => by omega) (fun id hid => by
   obtain ⟨e, he, h2, _⟩ := (g6.2 id).1 hid
   exact List.mem_map.2 ⟨e, he, h2⟩)
  rw [List.length_map] at this
  omega
 have hfin : ∀ us : List Unt, us.map (·.id) = ns -> (∀ u ∈ us, u ∈ w.U /\ u.inn = 0) -> R (lst 10 untC us) (F'.un (stS s w o0 o1 o2 p)) := fun us e1 e2 =>
  h F' us hS' (zqd hr hL g6 e1 e2) (by
   have := congrArg List.length e1
   rw [List.length_map] at this
   omega)
 have hback := zlh (S := stS s w o0 o1 o2 p) g2
 generalize (F'.un N).un (stS s w o0 o1 o2 p) = st1 at *
 refine AWp.loop (σ := Nat × AV × List Unt) ⟨fun x => [(0, .av (ptr s)), (6, .av x.2.1), (18, .av (.s (.slice oa ns.length cap))), (19, .av (int (ns.length : Nat))), (20, .av (int (x.1 : Nat)))], fun _ => [],
  fun x st' => x.1 <= ns.length /\ App 10 st1 x.2.1 (rws untC x.2.2) st' /\ x.2.2.map (·.id) = ns.take x.1 /\ ∀ u ∈ x.2.2, u ∈ w.U /\ u.inn = 0, fun x => ns.length - x.1⟩ zd ?_ ?_
 ·exact ⟨(0, _, []), Tv, ⟨Nat.zero_le _, App.start 10 st1, rfl, fun u hu => (by cases hu)⟩, ⟨Tq, Tq, Tq, Tq, Tq, Tv⟩, Tv⟩
 rintro ⟨i, v2, us⟩ st' ⟨hi, ha, hus, hin⟩
 dsimp only at hi ha hus hin ⊢
 refine bcd (fun h1 => ?_) (fun h1 => ?_)
 rotate_left
 ·have : i = ns.length := by omega
  subst this
  rw [List.take_length] at hus
  exact ⟨_, _, AV.le_trans ha.le (Tt), ha.has.trans hback, hfin us hus hin⟩
 have hlt : i < ns.length := by omega
 obtain ⟨b, J, rfl, hob⟩ := hget i hlt
 have hob' : st'.obj b = some (.cells (ns.map aI ++ J)) := by rw [ha.obj]; exact hob
 have hos : st'.obj s = some (.cells (stC w o0 o1 o2 p)) := by rw [ha.obj]; exact ho'
 refine ⟨i, rfl, hlt, ?_⟩
 refine za (o := st'.obj b) _ hob' ?_
 refine za (o := List.head? _) (int ns[i]) (by
  rw [List.head?_drop, show 0 + i * ti3.size = i from by show 0 + i * 1 = i; omega, List.getElem?_append_left (by simpa using hlt), List.getElem?_map, List.getElem?_eq_getElem hlt]; rfl) ?_
 refine za (o := st'.obj s) _ hos ?_
 refine zme w.U (by omega) hr ns[i] _ _ (fun k hk z hz => ?_)
 obtain ⟨e, he, hid, _⟩ := (g6.2 ns[i]).1 (List.getElem_mem hlt)
 obtain ⟨u, hu, hu0, rfl⟩ := (hL e).1 he
 have hfound : ∃ hk2 : k < w.U.length, w.U[k].id = ns[i] := by
  obtain ⟨j, hj, rfl⟩ := List.getElem_of_mem hu
  have h5 : j >= k := Decidable.byContradiction fun hn2 => by
   have := hk.2.1 j hj (by omega)
   have h6 : (w.U[j]).id = ns[i] := hid
   omega
  have h7 : k < w.U.length := by omega
  refine ⟨h7, ?_⟩
  have h8 := hk.2.2 k h7 (Nat.le_refl _)
  have h6 : (w.U[j]).id = ns[i] := hid
  by_cases e : k = j
  ·subst e; exact h6
  ·have := ji hr (show k < j by omega) hj
   omega
 obtain ⟨hk2, hk3⟩ := hfound
 refine za (o := st'.obj s) _ hos ?_
 refine ⟨k, rfl, za _ (zg hk2) ?_⟩
 refine ⟨by decide, ?_⟩
 have hul : us.length = i := by
  have := congrArg List.length hus
  rw [List.length_map, List.length_take] at this
  omega
 refine qu (ie := ti47) (rows' := [untC w.U[k]]) ha ?_ ?_ ⟨?_, ?_⟩ (fun v3 st3 ha3 => ?_)
 ·rfl
 ·rfl
 ·simp only [zi, List.length_singleton, ti47]; omega
 ·simp only [zi, List.length_singleton]; omega
 refine in64 (by omega) ?_
 have huk : w.U[k] = u := xg hr (List.getElem_mem hk2) hu (by rw [hk3]; exact hid.symm)
 refine ⟨(i + 1, v3, us ++ [w.U[k]]), ?_, ⟨by dsimp only; omega, ?_, ?_, fun u2 hu2 => ?_⟩, ⟨Tq, Tq, Tq, Tq, Tq, Tv⟩, Tv⟩
 ·show ns.length - (i + 1) < ns.length - i
  omega
 ·dsimp only
  unfold rws at ha3 ⊢
  rw [List.map_append]
  exact ha3
 ·dsimp only
  rw [List.map_append, hus, List.take_succ_eq_append_getElem hlt]
  simp [hk3]
 ·rcases List.mem_append.1 hu2 with h9 | h9
  ·exact hin u2 h9
  ·simp at h9
   subst h9
   rw [huk]
   exact ⟨hu, hu0⟩
theorem zgc {F : Store} {s p : Nat} {w : Wld} {L : List Ent} {o0 o1 o2 : AV} (hS : StandAt F s p w L o0 o1 o2) (hg : gndP w.G) (hB : w.B.length <= 1000000000000) (hb : ∀ b ∈ w.B, bldP b /\ onP w.G b) (hr : xn w.U) (hU : w.U.length <= 1000000) (hn : ∀ u ∈ w.U, u.pos.ok) (hLl : L.length <= w.U.length) (hL : zdo w L)
  (id k : Int) (q : Vc) (hq : q.ok) (R : AV -> Store -> Prop)
  (h : ∀ z F' q0 q1 q2, (z = true ↔ qf w id k q) -> StandAt F' s p w L q0 q1 q2 -> R (V.bool z) (F'.un (stS s w q0 q1 q2 p))) : ACalls Tryz.prog 47 [ptr s, int id, int k, .agg (vecC q)] (F.un (stS s w o0 o1 o2 p)) R := by
 have ho := un_r (a := F) (jh s w o0 o1 o2 p)
 have hk := zc2 k
 have hc := zq8 k
 refine ACalls.of_body (c := cfg 56) zd Tryz.func47 (by rfl) (by rfl) (by rfl) (by rfl) ?_
 refine jz k _ _ ?_
 refine ADraw.of_sched zd (by rfl) (by rfl) zum (by rfl) ?_
 refine za (o := (F.un (stS s w _ _ _ p)).obj s) _ ho ?_
 refine ⟨zf8 hS hg hB hb (kCls k) hc _ (fun a0 a1 a2 hS1 => ⟨?_, ?_⟩), Tv⟩
 ·have ho1 := un_r (a := F) (jh s w a0 a1 a2 p)
  repeat (first | exact Tv | refine ⟨rfl, ?_⟩ | refine ⟨za (o := (F.un (stS s w a0 a1 a2 p)).obj s) _ ho1 rfl, ?_⟩)
 refine ⟨zlq w.G hg w.B (kCls k) q hq (kRad k) ⟨hk.1, by omega⟩ _ _ (fun z hz => ⟨Tv, ?_⟩), Tv⟩
 refine y5 ?_
 refine ze (fun c1 => ?_) (fun c1 => ret (h false _ _ _ _ (by simp only [Bool.false_eq_true, false_iff]; exact fun hh => by have := hz.2 hh.1; rw [this] at c1; cases c1) hS1))
 have hfree := hz.1 c1
 refine zh8 hS1 hr hU hn hLl hL q hq (kRad k) ⟨hk.1, by omega⟩ _ (fun F' us hS2 hus hul => ?_)
 have hci := zl8 (id := id) hfree hus
 have no : ¬ qf w id k q -> R (V.bool false) (F'.un (stS s w a0 a1 a2 p)) := fun hh => h false _ _ _ _ (by simp only [Bool.false_eq_true, false_iff]; exact hh) hS2
 refine AWp.loop (σ := Nat) ⟨fun i => [(1, .av (int id)), (7, .bx 7 0), (9, .bx 9 0), (32, .av (lst 10 untC us)), (33, .av (int (us.length : Nat))), (34, .av (int (i : Nat)))], fun _ => [(7, vecC q), (9, zgm k)],
  fun i st' => st' = F'.un (stS s w a0 a1 a2 p) /\ i <= us.length /\ ∀ j, (hj : j < us.length) -> j < i -> us[j].id ≠ id -> k6 q (kRad k) us[j].pos (kRad us[j].kind) = true, fun i => us.length - i⟩ zd ?_ ?_
 ·refine ⟨0, Tv, ⟨rfl, Nat.zero_le _, fun j _ hj => by omega⟩, ⟨Tq, Tq, Tq, Tq, ?_, Tq, Tv⟩, ⟨rfl, rfl, Tv⟩⟩
  rw [<- zi (f := untC) us]; exact Tq
 rintro i st' ⟨rfl, hi, hall⟩
 refine bcd (fun h1 => ?_) (fun h1 => ?_)
 rotate_left
 ·refine ret (h true _ _ _ _ (by
   simp only [true_iff]
   refine hci.2 fun u hu hne => ?_
   obtain ⟨j, hj, rfl⟩ := List.getElem_of_mem hu
   exact hall j hj (by omega) hne) hS2)
 have hlt : i < us.length := by omega
 have hui := (hus us[i]).1 (List.getElem_mem hlt)
 have next : (us[i].id ≠ id -> k6 q (kRad k) us[i].pos (kRad us[i].kind) = true) -> ∀ j, (hj : j < us.length) -> j < i + 1 -> us[j].id ≠ id -> k6 q (kRad k) us[j].pos (kRad us[j].kind) = true := fun hh j hj hji => by
  by_cases e : j = i
  ·subst e; exact hh
  ·exact hall j hj (by omega)
 refine ⟨i, rfl, za _ (zg hlt) ?_⟩
 refine ADraw.of_sched zd (by rfl) (by rfl) zul (by rfl) ?_
 refine bcne (fun c2 => ?_) (fun c2 => ?_)
 ·refine ⟨jz us[i].kind _ _ ⟨(by repeat (first | exact Tv | refine ⟨rfl, ?_⟩ | refine ⟨optR (optR (optR (za _ (zb _ _ _) rfl))), ?_⟩)), ?_⟩, Tv⟩
  have hk2 := zc2 us[i].kind
  refine ⟨zjm q (kRad k) us[i].pos (kRad us[i].kind) hq (hn _ hui.1.1) ⟨hk.1, by omega⟩ ⟨hk2.1, by omega⟩ _ _ ⟨Tv, ?_⟩, Tv⟩
  refine y5 ?_
  refine ze (fun c3 => ?_) (fun c3 => ?_)
  ·refine in64 (by omega) ?_
   refine ⟨i + 1, ?_, ⟨rfl, by omega, next fun _ => c3⟩, ⟨Tq, Tq, Tq, Tq, Tq, Tq, Tv⟩, ⟨rfl, rfl, Tv⟩⟩
   show us.length - (i + 1) < us.length - i
   omega
  ·refine ret (no fun hh => ?_)
   have := hci.1 hh us[i] (List.getElem_mem hlt) c2
   rw [this] at c3; cases c3
 ·refine ⟨⟨(by repeat (first | exact Tv | refine ⟨rfl, ?_⟩ | refine ⟨optR (optR (optR (za _ (zb _ _ _) rfl))), ?_⟩)), ?_⟩, Tv⟩
  refine ⟨⟨Tv, ?_⟩, Tv⟩
  refine in64 (by omega) ?_
  refine ⟨i + 1, ?_, ⟨rfl, by omega, next fun hne => absurd c2 hne⟩, ⟨Tq, Tq, Tq, Tq, Tq, Tq, Tv⟩, ⟨rfl, rfl, Tv⟩⟩
  show us.length - (i + 1) < us.length - i
  omega
theorem isT' {R : AV -> Store -> Prop} {b : Bool} {st : Store} (h : R (V.bool b) st) (hb : b = true) : R (V.bool true) st := by rw [hb] at h; exact h
theorem zfd (w : Wld) (b : Bld) (p : Nat) (st : Store) (hp : st.obj p = some (.cells (wldC w))) (R : AV -> Store -> Prop) (h : R (V.bool (decide (b.owner > w.players \/ b.id >= w.next))) st) :
  ACalls Tryz.prog 65 ([.agg (bldC b)] ++ [ptr p]) st R := by
 refine ACalls.of_body (c := cfg 16) zd Tryz.func65 (by rfl) (by rfl) (by rfl) (by rfl) ?_
 refine za _ hp ?_
 refine bcd (fun c1 => ret (isT' h (decide_eq_true (.inl c1)))) (fun c1 => ?_)
 refine za _ hp ?_
 refine ret ?_
 have e : decide (b.owner > w.players \/ b.id >= w.next) = decide (b.id >= w.next) := by
  rw [Bool.eq_iff_iff, decide_eq_true_iff, decide_eq_true_iff]; omega
 rw [e] at h
 exact h
set_option maxRecDepth 10000 in
theorem zi6 (w : Wld) (hw : w.fits) (st : Store) (R : AV -> Store -> Prop) (h : ∀ z : Bool, (z = true ↔ ze6 w) -> R (V.bool z) st) : ACalls Tryz.prog 44 [.agg (wldC w)] st R := by
 obtain ⟨hw1, hw2, hw3⟩ := hw
 refine ACalls.of_body (c := cfg 54 [1] []) zd Tryz.func44 (by rfl) (by rfl) (by rfl) (by rfl) ?_
 intro p hp
 have ho : (st.setObj p (.cells (wldC w))).obj p = some (.cells (wldC w)) := zb _ _ _
 have nof : ¬ ze6 w -> ∃ r st', AV.le (V.bool false) r /\ (st.setObj p (.cells (wldC w))).Has st' /\ R r st' := fun hn => zah (Tt) (xi hp.1) (h false (by simp only [Bool.false_eq_true, false_iff]; exact hn))
 refine za _ ho ?_
 refine bcd (fun c1 => nof fun q => by have := q.1; omega) (fun c1 => ?_)
 refine za _ ho ?_
 refine bcd (fun c2 => nof fun q => by have := q.1; omega) (fun c2 => ?_)
 refine za _ ho ?_
 refine bcd (fun c3 => nof fun q => by have := q.1; omega) (fun c3 => ?_)
 refine za _ ho ?_
 refine bcd (fun c4 => nof fun q => by have := q.1; omega) (fun c4 => ?_)
 refine za _ ho ?_
 refine bcd (fun c5 => nof fun q => by have := q.1; omega) (fun c5 => ?_)
 refine za _ ho ?_
 refine bcd (fun c6 => nof fun q => by have := q.1; omega) (fun c6 => ?_)
 refine za _ ho ?_
 refine zcf w.G hw1 _ _ (fun z hz => ?_)
 refine y5 ?_
 refine ze (fun c7 => ?_) (fun c7 => nof fun q => by have := hz.2 q.2.1.1; rw [this] at c7; cases c7)
 have hg := hz.1 c7
 refine za _ ho ?_
 refine za _ ho ?_
 refine zea w.G hg w.B hw2 _ _ (fun z hz => ?_)
 refine y5 ?_
 refine ze (fun c8 => ?_) (fun c8 => nof fun q => by have := hz.2 q.2.1.2.1; rw [this] at c8; cases c8)
 have hb := hz.1 c8
 refine za _ ho ?_
 have hUl : ((rws untC w.U).length : Int) = (w.U.length : Int) := by rw [zi]
 refine bcd (fun c9 => nof fun q => by have := q.2.1.2.2; omega) (fun c9 => ?_)
 refine za _ ho ?_
 refine za0 w.B hw2 _ _ (fun b => decide (b.owner > w.players \/ b.id >= w.next)) _ (fun b hb R h => zfd w b p _ ho R h) _ ?_
 refine zah (Tt) (xi hp.1) (h _ ?_)
 rw [Bool.not_eq_true', List.any_eq_false]
 constructor
 ·intro hh
  refine ⟨by omega, ⟨hg, hb, by omega⟩, fun b hb2 => ?_⟩
  have := hh b hb2
  rw [decide_eq_true_iff] at this
  omega
 ·intro hh b hb2
  have := hh.2.2 b hb2
  rw [decide_eq_true_iff]
  omega
def cntO (cs : List (Int × Int)) (bs : List Nat) (clk : Nat) : AObj := .map (cs.map (entI int)) bs clk
def cntV (m : Nat) : AV := .s (.map (some m))
set_option maxHeartbeats 1000000 in
theorem zgg (w : Wld) (hU : w.U.length <= 1000000) (hr : xn w.U) (st : Store) (R : AV -> Store -> Prop) (h : ∀ z : Bool, (z = true ↔ ∀ u ∈ w.U, u.inn ≠ 0 -> k5 w u) -> R (V.bool z) st) : ACalls Tryz.prog 48 [.agg (wldC w)] st R := by
 refine ACalls.of_body (c := cfg 85) zd Tryz.func48 (by rfl) (by rfl) (by rfl) (by rfl) ?_
 refine xy rfl (fun m hm => ?_)
 have hhas : ∀ x, (st.setObj m x).Has st := fun x => xi hm.1
 have nof : ∀ x, ¬ (∀ u ∈ w.U, u.inn ≠ 0 -> k5 w u) -> ∃ r st', AV.le (V.bool false) r /\ (st.setObj m x).Has st' /\ R r st' := fun x hn => zah (Tt) (hhas x) (h false (by simp only [Bool.false_eq_true, false_iff]; exact hn))
 refine AWp.loop (σ := Nat × List (Int × Int) × List Nat × Nat) ⟨fun x => [(1, .bx 1 0), (3, .av (cntV m)), (11, .av (lst 10 untC w.U)), (12, .av (int (w.U.length : Nat))), (13, .av (int (x.1 : Nat)))], fun _ => [(1, wldC w)],
  fun x st' => x.1 <= w.U.length /\ st' = st.setObj m (cntO x.2.1 x.2.2.1 x.2.2.2) /\ (∀ id, id ≠ 0 -> (getI x.2.1 id).getD 0 = ((inOf (w.U.take x.1) id).length : Int)) /\ zkm w x.1, fun x => w.U.length - x.1⟩ zd ?_ ?_
 ·refine ⟨(0, [], [], 0), Tv, ⟨Nat.zero_le _, rfl, fun id _ => rfl, fun j _ hj => by omega, fun x _ _ => (zgn _).1⟩, ⟨Tq, Tq, Tq, ?_, Tq, Tv⟩, ⟨rfl, Tv⟩⟩
  rw [<- zi (f := untC) w.U]; exact Tq
 rintro ⟨i, cs, bs, clk⟩ st' ⟨hi, rfl, hcnt, hup⟩
 dsimp only at hi hcnt hup ⊢
 refine bcd (fun h1 => ?_) (fun h1 => ?_)
 rotate_left
 ·have : i = w.U.length := by omega
  subst this
  exact zah (Tt) (hhas _) (h true (by simp only [true_iff]; exact zih hup))
 have hlt : i < w.U.length := by omega
 have hui := List.getElem_mem hlt
 refine ⟨i, rfl, za _ (zg hlt) ?_⟩
 refine bceq (fun c1 => ?_) (fun c1 => ?_)
 ·refine in64 (by omega) ?_
  refine ⟨(i + 1, cs, bs, clk), ?_, ⟨by dsimp only; omega, rfl, fun id hid => ?_, fun j hj hji hne => ?_, fun x hx hx0 => ?_⟩, ⟨Tq, Tq, Tq, Tq, Tq, Tv⟩, ⟨rfl, Tv⟩⟩
  ·show w.U.length - (i + 1) < w.U.length - i
   omega
  ·dsimp only
   rw [hcnt id hid, j9 hlt, if_neg (by rw [c1]; omega)]; omega
  ·by_cases e : j = i
   ·subst e; exact absurd c1 hne
   ·exact hup.1 j hj (by dsimp only at hji; omega) hne
  ·dsimp only
   rw [j9 hlt, if_neg (by rw [c1]; omega)]
   have := hup.2 x hx hx0
   omega
 refine zme w.U (by omega) hr w.U[i].inn _ _ (fun k hk z hz => ?_)
 have nou : ∀ x, ¬ k5 w w.U[i] -> ∃ r st', AV.le (V.bool false) r /\ (st.setObj m x).Has st' /\ R r st' := fun x hn => nof x fun hh => hn (hh _ hui c1)
 have found : k5 w w.U[i] -> z = true := fun ⟨x, hx, e, _⟩ => by
  obtain ⟨j, hj, rfl⟩ := List.getElem_of_mem hx
  refine hz.2 ?_
  have h5 : j >= k := Decidable.byContradiction fun hn2 => by
   have := hk.2.1 j hj (by omega)
   omega
  have h7 : k < w.U.length := by omega
  refine ⟨h7, ?_⟩
  have h8 := hk.2.2 k h7 (Nat.le_refl _)
  by_cases e2 : k = j
  ·subst e2; exact e
  ·have := ji hr (show k < j by omega) hj
   omega
 refine y5 ?_
 refine ze (fun c2 => ?_) (fun c2 => nou _ fun hh => by rw [found hh] at c2; cases c2)
 obtain ⟨hkl, hkid⟩ := hz.1 c2
 have uniq : k5 w w.U[i] -> (w.U[k].inn = 0 /\ w.U[k].owner = w.U[i].owner) /\ ((inOf w.U w.U[i].inn).length : Int) <= jn w.U[k].kind := fun ⟨x, hx, e, e2, e3, _⟩ => by
  have := xg hr hx (List.getElem_mem hkl) (by rw [e, hkid])
  subst this
  exact ⟨e2, e3⟩
 refine jz w.U[i].kind _ _ ?_
 refine bcd (fun c3 => nou _ fun ⟨x, _, _, _, _, e, _⟩ => by omega) (fun c3 => ?_)
 have hroom : jn w.U[i].kind = 0 := by have := zgn w.U[i].kind; omega
 refine y5 ?_
 refine ze (fun c4 => ?_) (fun c4 => nou _ fun ⟨x, _, _, _, _, _, e, _⟩ => by rw [e] at c4; cases c4)
 have hpos : w.U[i].pos = (0, 0) := by
  have : (w.U[i].pos.1 == 0 && (w.U[i].pos.2 == 0 && true)) = true := c4
  simp at this
  exact Prod.ext this.1 this.2
 refine bcne (fun c5 => nou _ fun ⟨x, _, _, _, _, _, _, e, _⟩ => c5 e) (fun c5 => ?_)
 refine bcne (fun c6 => nou _ fun ⟨x, _, _, _, _, _, _, _, e⟩ => c6 e) (fun c6 => ?_)
 refine ⟨k, rfl, za _ (zg hkl) ?_⟩
 have hmo : (st.setObj m (cntO cs bs clk)).obj m = some (cntO cs bs clk) := zb _ _ _
 refine yh rfl (it := ti109) (ie := ti3) (ik := ti3) rfl rfl rfl rfl hmo rfl (qA w.U[k].id) (fun e he => ?_) ?_
 ·obtain ⟨e, _, rfl⟩ := List.mem_map.1 he
  rfl
 rw [zbp]
 have hz0 : w.U[k].id ≠ 0 := by rw [hkid]; exact c1
 have hcv : (Option.map int (getI cs w.U[k].id)).getD (jv ti3) = int ((inOf (w.U.take i) w.U[k].id).length : Int) := by
  rw [<- hcnt _ hz0]
  cases getI cs w.U[k].id <;> rfl
 rw [hcv]
 have hcl : (inOf (w.U.take i) w.U[k].id).length <= 1000000 := by
  have h1 := zgq (l := w.U) i w.U[k].id
  have h2 : (inOf w.U w.U[k].id).length <= w.U.length := by unfold inOf; rw [List.length_map]; exact List.length_filter_le _ _
  omega
 refine in64 (by omega) ?_
 refine qa (.inl rfl) rfl (it := ti109) (ik := ti3) rfl rfl rfl (es := cs.map (entI int)) (bs := bs) (clk := clk) (k := int w.U[k].id) (v := int (((inOf (w.U.take i) w.U[k].id).length : Int) + 1)) hmo rfl rfl (qA w.U[k].id) (fun e he => ?_) (fun e1 he hq => ?_) ?_
 ·obtain ⟨e, _, rfl⟩ := List.mem_map.1 he
  rfl
 ·obtain ⟨g1, _, rfl⟩ := List.mem_map.1 he
  have : w.U[k].id = g1.1 := by simpa [qA, entI, int] using hq
  show int g1.1 = _
  rw [this]
 obtain ⟨bs', clk', hput⟩ := zbo int cs bs clk w.U[k].id (((inOf (w.U.take i) w.U[k].id).length : Int) + 1)
 have hput : qw (cs.map (entI int)) bs clk (qA w.U[k].id) (int w.U[k].id) (int (((inOf (w.U.take i) w.U[k].id).length : Int) + 1)) = cntO (putI cs w.U[k].id (((inOf (w.U.take i) w.U[k].id).length : Int) + 1)) bs' clk' := hput
 rw [hput, zk]
 have hmo2 : (st.setObj m (cntO (putI cs w.U[k].id (((inOf (w.U.take i) w.U[k].id).length : Int) + 1)) bs' clk')).obj m = some (cntO (putI cs w.U[k].id (((inOf (w.U.take i) w.U[k].id).length : Int) + 1)) bs' clk') := zb _ _ _
 have hlook : v7 false (jv ti3) (((putI cs w.U[k].id (((inOf (w.U.take i) w.U[k].id).length : Int) + 1)).map (entI int)).find? (qA w.U[k].id)) = int (((inOf (w.U.take i) w.U[k].id).length : Int) + 1) := by
  rw [zbp, za6, if_pos rfl]; rfl
 have hsucc := j9 hlt w.U[k].id
 rw [if_pos hkid.symm] at hsucc
 have hcnt2 : ∀ id, id ≠ 0 -> (getI (putI cs w.U[k].id (((inOf (w.U.take i) w.U[k].id).length : Int) + 1)) id).getD 0 = ((inOf (w.U.take (i + 1)) id).length : Int) := fun id hid => by
  rw [za6]
  by_cases e : id = w.U[k].id
  ·rw [if_pos e, e, hsucc]; rfl
  ·rw [if_neg e, hcnt id hid, j9 hlt, if_neg (by rw [<- hkid]; exact Ne.symm e)]; omega
 generalize putI cs w.U[k].id (((inOf (w.U.take i) w.U[k].id).length : Int) + 1) = cs2 at *
 have over : jn w.U[k].kind < ((inOf (w.U.take i) w.U[k].id).length : Int) + 1 -> ¬ k5 w w.U[i] := fun hh hp => by
  have h2 := (uniq hp).2
  have h3 := zgq (l := w.U) (i + 1) w.U[k].id
  rw [<- hkid] at h2
  omega
 have good : w.U[k].inn = 0 -> w.U[k].owner = w.U[i].owner -> ((inOf (w.U.take i) w.U[k].id).length : Int) + 1 <= jn w.U[k].kind -> zkm w (i + 1) := fun e1 e2 e3 => by
  refine ⟨fun j hj hji hne => ?_, fun x hx hx0 => ?_⟩
  ·by_cases e : j = i
   ·subst e
    exact ⟨w.U[k], List.getElem_mem hkl, hkid, ⟨e1, e2⟩, hroom, hpos, c5, c6⟩
   ·exact hup.1 j hj (by omega) hne
  ·by_cases e : x.id = w.U[k].id
   ·have := xg hr hx (List.getElem_mem hkl) e
    subst this
    omega
   ·rw [j9 hlt, if_neg (by rw [<- hkid]; exact Ne.symm e)]
    have := hup.2 x hx hx0
    omega
 refine ADraw.of_sched zd (by rfl) (by rfl) zpt (by rfl) ?_
 refine bcne (fun c7 => ?_) (fun c7 => ?_)
 ·refine ⟨⟨(by repeat (first | exact Tv | refine ⟨rfl, ?_⟩ | refine ⟨optR (optR (optR (za _ (zb _ _ _) rfl))), ?_⟩)), ⟨⟨(by repeat (first | exact Tv | refine ⟨rfl, ?_⟩ | refine ⟨optR (optR (optR (za _ (zb _ _ _) rfl))), ?_⟩)), nou _ (fun hh => c7 (uniq hh).1.1)⟩, Tv⟩⟩, ⟨⟨(by repeat (first | exact Tv | refine ⟨rfl, ?_⟩ | refine ⟨optR (optR (optR (za _ (zb _ _ _) rfl))), ?_⟩)), ⟨⟨(by repeat (first | exact Tv | refine ⟨rfl, ?_⟩ | refine ⟨optR (optR (optR (za _ (zb _ _ _) rfl))), ?_⟩)), nou _ (fun hh => c7 (uniq hh).1.1)⟩, Tv⟩⟩, Tv⟩⟩
 refine bcne (fun c8 => ?_) (fun c8 => ?_)
 ·refine ⟨⟨(by repeat (first | exact Tv | refine ⟨rfl, ?_⟩ | refine ⟨optR (optR (optR (za _ (zb _ _ _) rfl))), ?_⟩)), ⟨⟨(by repeat (first | exact Tv | refine ⟨rfl, ?_⟩ | refine ⟨optR (optR (optR (za _ (zb _ _ _) rfl))), ?_⟩)), nou _ (fun hh => c8 (uniq hh).1.2)⟩, Tv⟩⟩, ⟨⟨(by repeat (first | exact Tv | refine ⟨rfl, ?_⟩ | refine ⟨optR (optR (optR (za _ (zb _ _ _) rfl))), ?_⟩)), ⟨⟨(by repeat (first | exact Tv | refine ⟨rfl, ?_⟩ | refine ⟨optR (optR (optR (za _ (zb _ _ _) rfl))), ?_⟩)), nou _ (fun hh => c8 (uniq hh).1.2)⟩, Tv⟩⟩, Tv⟩⟩
 refine ⟨?_, ?_, Tv⟩
 ·refine yh rfl (it := ti109) (ie := ti3) (ik := ti3) rfl rfl rfl rfl hmo2 rfl (qA w.U[k].id) (fun e he => by obtain ⟨e, _, rfl⟩ := List.mem_map.1 he; rfl) ?_
  rw [hlook]
  refine ⟨(by repeat (first | exact Tv | refine ⟨rfl, ?_⟩ | refine ⟨optR (optR (optR (za _ (zb _ _ _) rfl))), ?_⟩)), ?_⟩
  refine ⟨jz w.U[k].kind _ _ ⟨(by repeat (first | exact Tv | refine ⟨rfl, ?_⟩ | refine ⟨optR (optR (optR (za _ (zb _ _ _) rfl))), ?_⟩)), ?_⟩, Tv⟩
  refine bcd (fun c9 => nou _ (over (by omega))) (fun c9 => ?_)
  refine in64 (by omega) ?_
  refine ⟨(i + 1, cs2, bs', clk'), ?_, ⟨by dsimp only; omega, rfl, hcnt2, good c7 c8 (by omega)⟩, ⟨Tq, Tq, Tq, Tq, Tq, Tv⟩, ⟨rfl, Tv⟩⟩
  show w.U.length - (i + 1) < w.U.length - i
  omega
 ·refine jz w.U[k].kind _ _ ⟨(by repeat (first | exact Tv | refine ⟨rfl, ?_⟩ | refine ⟨optR (optR (optR (za _ (zb _ _ _) rfl))), ?_⟩)), ?_⟩
  refine ⟨?_, Tv⟩
  refine yh rfl (it := ti109) (ie := ti3) (ik := ti3) rfl rfl rfl rfl hmo2 rfl (qA w.U[k].id) (fun e he => by obtain ⟨e, _, rfl⟩ := List.mem_map.1 he; rfl) ?_
  rw [hlook]
  refine ⟨(by repeat (first | exact Tv | refine ⟨rfl, ?_⟩ | refine ⟨optR (optR (optR (za _ (zb _ _ _) rfl))), ?_⟩)), ?_⟩
  refine bcd (fun c9 => nou _ (over (by omega))) (fun c9 => ?_)
  refine in64 (by omega) ?_
  refine ⟨(i + 1, cs2, bs', clk'), ?_, ⟨by dsimp only; omega, rfl, hcnt2, good c7 c8 (by omega)⟩, ⟨Tq, Tq, Tq, Tq, Tq, Tv⟩, ⟨rfl, Tv⟩⟩
  show w.U.length - (i + 1) < w.U.length - i
  omega
def tkO (cs : List (Int × Bool)) (bs : List Nat) (clk : Nat) : AObj := .map (cs.map (entI V.bool)) bs clk
set_option maxHeartbeats 1000000 in
theorem zuz (w : Wld) (hw : w.fits) (hn : ∀ u ∈ w.U, u.pos.ok) : ACalls Tryz.prog 28 [.agg (wldC w)] Store.empty fun r _ => ∃ z, r = V.bool z /\ (z = true ↔ mayP w) := by
 have no : ¬ mayP w -> ∃ z, V.bool false = V.bool z /\ (z = true ↔ mayP w) := fun hn => ⟨false, rfl, by simp only [Bool.false_eq_true, false_iff]; exact hn⟩
 refine ACalls.of_awp (c := cfg 87) zd Tryz.func28 (by rfl) (by rfl) (by rfl) (by rfl) ?_
 refine AWp.seq (AWp.of_vc zd ?_)
 refine AWp.seq (AWp.of_vc zd ?_)
 refine zi6 w hw _ _ (fun z hz => ?_)
 refine y5 ?_
 refine ze (fun c1 => ?_) (fun c1 => ret (no fun q => by have := hz.2 q.1.1; rw [this] at c1; cases c1))
 have hh := hz.1 c1
 have hg := hh.2.1.1
 have hbl := hh.2.1.2.1
 have hBl : w.B.length <= 256 := hbl.1
 have hU : w.U.length <= 4096 := hh.2.1.2.2
 have hbb : ∀ b ∈ w.B, bldP b /\ onP w.G b := fun b hb => ⟨(hbl.2.2.1 b hb).1, (hbl.2.2.1 b hb).2.1⟩
 refine AWp.seq (AWp.of_vc zd ?_)
 refine xy rfl (fun m hm => ?_)
 refine AWp.meetA (σ := List (Int × Bool) × List Nat × Nat) ⟨fun _ => [(1, .bx 1 0), (3, .av (cntV m))], fun _ => [(1, wldC w)], fun x st' => st' = Store.empty.setObj m (tkO x.1 x.2.1 x.2.2) /\ ∀ id, (getI x.1 id).getD false = true ↔ ∃ b ∈ w.B, b.id = id⟩ ?_ ?_
 ·refine AWp.of_vc zd ?_
  refine AWp.loop (σ := Nat × List (Int × Bool) × List Nat × Nat) ⟨fun x => [(1, .bx 1 0), (3, .av (cntV m)), (16, .av (lst 6 bldC w.B)), (17, .av (int (w.B.length : Nat))), (18, .av (int (x.1 : Nat)))], fun _ => [(1, wldC w)],
   fun x st' => x.1 <= w.B.length /\ st' = Store.empty.setObj m (tkO x.2.1 x.2.2.1 x.2.2.2) /\ ∀ id, (getI x.2.1 id).getD false = true ↔ ∃ b ∈ w.B.take x.1, b.id = id, fun x => w.B.length - x.1⟩ zd ?_ ?_
  ·refine ⟨(0, [], [], 0), Tv, ⟨Nat.zero_le _, rfl, fun id => ⟨fun h => (by cases h), fun ⟨b, hb, _⟩ => (by simp at hb)⟩⟩, ⟨Tq, Tq, Tq, ?_, Tq, Tv⟩, ⟨rfl, Tv⟩⟩
   rw [<- zi (f := bldC) w.B]; exact Tq
  rintro ⟨i, cs, bs, clk⟩ st' ⟨hi, rfl, htk⟩
  dsimp only at hi htk ⊢
  refine bcd (fun h1 => ?_) (fun h1 => ?_)
  rotate_left
  ·have : i = w.B.length := by omega
   subst this
   rw [List.take_length] at htk
   exact ⟨(cs, bs, clk), ⟨rfl, htk⟩, ⟨Tq, Tq, Tv⟩, ⟨rfl, Tv⟩⟩
  have hlt : i < w.B.length := by omega
  refine ⟨i, rfl, za _ (zg hlt) ?_⟩
  have hmo : (Store.empty.setObj m (tkO cs bs clk)).obj m = some (tkO cs bs clk) := zb _ _ _
  refine qa (.inl rfl) rfl (it := ti81) (ik := ti3) rfl rfl rfl (es := cs.map (entI V.bool)) (bs := bs) (clk := clk) (k := int w.B[i].id) (v := V.bool true) hmo rfl rfl (qA w.B[i].id) (fun e he => ?_) (fun e1 he hq => ?_) ?_
  ·obtain ⟨e, _, rfl⟩ := List.mem_map.1 he
   rfl
  ·obtain ⟨g1, _, rfl⟩ := List.mem_map.1 he
   have : w.B[i].id = g1.1 := by simpa [qA, entI, int] using hq
   show int g1.1 = _
   rw [this]
  obtain ⟨bs', clk', hput⟩ := zbo V.bool cs bs clk w.B[i].id true
  have hput : qw (cs.map (entI V.bool)) bs clk (qA w.B[i].id) (int w.B[i].id) (V.bool true) = tkO (putI cs w.B[i].id true) bs' clk' := hput
  rw [hput, zk]
  refine in64 (by omega) ?_
  refine ⟨(i + 1, putI cs w.B[i].id true, bs', clk'), ?_, ⟨by dsimp only; omega, rfl, fun id => ?_⟩, ⟨Tq, Tq, Tq, Tq, Tq, Tv⟩, ⟨rfl, Tv⟩⟩
  ·show w.B.length - (i + 1) < w.B.length - i
   omega
  ·dsimp only
   rw [za6, List.take_succ_eq_append_getElem hlt]
   by_cases e : id = w.B[i].id
   ·rw [if_pos e]
    exact ⟨fun _ => ⟨w.B[i], List.mem_append.2 (.inr (List.mem_singleton.2 rfl)), e.symm⟩, fun _ => rfl⟩
   ·rw [if_neg e, htk id]
    constructor
    ·rintro ⟨b, hb, h3⟩; exact ⟨b, List.mem_append.2 (.inl hb), h3⟩
    ·rintro ⟨b, hb, h3⟩
     rcases List.mem_append.1 hb with hb | hb
     ·exact ⟨b, hb, h3⟩
     ·simp at hb; subst hb; exact absurd h3.symm e
 rintro ⟨cs, bs, clk⟩ st' ⟨rfl, htk⟩
 dsimp only at htk ⊢
 have hmo : (Store.empty.setObj m (tkO cs bs clk)).obj m = some (tkO cs bs clk) := zb _ _ _
 have hhas : (Store.empty.setObj m (tkO cs bs clk)).Has Store.empty := xi rfl
 refine AWp.meetA (σ := Unit) ⟨fun _ => [(1, .bx 1 0)], fun _ => [(1, wldC w)], fun _ st' => st' = Store.empty.setObj m (tkO cs bs clk) /\ zej w w.U.length⟩ ?_ ?_
 ·refine AWp.of_vc zd ?_
  refine AWp.loop (σ := Nat) ⟨fun i => [(1, .bx 1 0), (3, .av (cntV m)), (27, .av (lst 10 untC w.U)), (28, .av (int (w.U.length : Nat))), (29, .av (int (i : Nat)))], fun _ => [(1, wldC w)],
   fun i st' => i <= w.U.length /\ st' = Store.empty.setObj m (tkO cs bs clk) /\ zej w i, fun i => w.U.length - i⟩ zd ?_ ?_
  ·refine ⟨0, Tv, ⟨Nat.zero_le _, rfl, fun j _ hj => by omega⟩, ⟨Tq, Tq, Tq, ?_, Tq, Tv⟩, ⟨rfl, Tv⟩⟩
   rw [<- zi (f := untC) w.U]; exact Tq
  rintro i st' ⟨hi, rfl, hup⟩
  refine bcd (fun h1 => ?_) (fun h1 => ?_)
  rotate_left
  ·have : i = w.U.length := by omega
   subst this
   exact ⟨(), ⟨rfl, hup⟩, ⟨Tq, Tv⟩, ⟨rfl, Tv⟩⟩
  have hlt : i < w.U.length := by omega
  have nou : ¬ ((untP w w.U[i] /\ ∀ b ∈ w.B, b.id ≠ w.U[i].id) /\ (0 < i -> (w.U[i - 1]'(by omega)).id < w.U[i].id)) -> ∃ z, V.bool false = V.bool z /\ (z = true ↔ mayP w) := fun hq => no fun q => hq (zhe q.1.2 (i + 1) i hlt (by omega))
  refine ⟨i, rfl, za _ (zg hlt) ?_⟩
  refine ADraw.of_sched zd (by rfl) (by rfl) zpv (by rfl) ?_
  refine ⟨zjr w w.U[i] hg _ _ (fun z hz => ⟨Tv, ?_⟩), Tv⟩
  refine y5 ?_
  refine ze (fun c2 => ?_) (fun c2 => ⟨⟨Tv, ret (nou fun q => by have := hz.2 q.1.1; rw [this] at c2; cases c2)⟩, Tv⟩)
  have hunt := hz.1 c2
  refine ⟨yh rfl (it := ti81) (ie := ti4) (ik := ti3) rfl rfl rfl rfl hmo rfl (qA w.U[i].id) (fun e he => by obtain ⟨e, _, rfl⟩ := List.mem_map.1 he; rfl) ?_, Tv⟩
  rw [zbp]
  have hcv : (Option.map V.bool (getI cs w.U[i].id)).getD (jv ti4) = V.bool ((getI cs w.U[i].id).getD false) := by
   cases getI cs w.U[i].id <;> rfl
  rw [hcv]
  have htki := htk w.U[i].id
  generalize (getI cs w.U[i].id).getD false = tk at htki
  refine ⟨Tv, ?_⟩
  refine ze (fun c3 => ret (nou fun q => by obtain ⟨b, hb, e⟩ := htki.1 c3; exact q.1.2 b hb e)) (fun c3 => ?_)
  have hnb : ∀ b ∈ w.B, b.id ≠ w.U[i].id := fun b hb e => by have := htki.2 ⟨b, hb, e⟩; rw [this] at c3; cases c3
  have next : (0 < i -> (w.U[i - 1]'(by omega)).id < w.U[i].id) -> zej w (i + 1) := fun hq j hj hji => by
   by_cases e : j = i
   ·subst e; exact ⟨⟨hunt, hnb⟩, hq⟩
   ·exact hup j hj (by omega)
  have fin : zej w (i + 1) -> yb ((i : Int) + 1) /\ (i + 1 <= w.U.length /\ Store.empty.setObj m (tkO cs bs clk) = Store.empty.setObj m (tkO cs bs clk) /\ zej w (i + 1)) := fun hq => ⟨⟨by omega, by omega⟩, by omega, rfl, hq⟩
  refine bcd (fun c4 => ?_) (fun c4 => ?_)
  ·have hi0 : 0 < i := by omega
   refine in64 (by omega) ?_
   refine ⟨i - 1, by omega, za _ (zg (show i - 1 < w.U.length by omega)) ?_⟩
   refine bcd (fun c5 => ret (nou fun q => by have := q.2 hi0; omega)) (fun c5 => ?_)
   obtain ⟨f1, f2⟩ := fin (next fun _ => by omega)
   refine ⟨f1, ?_⟩
   refine ⟨i + 1, ?_, f2, ⟨Tq, Tq, Tq, Tq, Tq, Tv⟩, ⟨rfl, Tv⟩⟩
   show w.U.length - (i + 1) < w.U.length - i
   omega
  ·obtain ⟨f1, f2⟩ := fin (next fun h0 => absurd h0 (by omega))
   refine ⟨f1, ?_⟩
   refine ⟨i + 1, ?_, f2, ⟨Tq, Tq, Tq, Tq, Tq, Tv⟩, ⟨rfl, Tv⟩⟩
   show w.U.length - (i + 1) < w.U.length - i
   omega
 rintro _ _ ⟨rfl, hall⟩
 have hok := zei hall
 refine AWp.leS hhas.toLe ?_
 refine AWp.seq (AWp.of_vc zd ?_)
 refine zkw w (by omega) hn _ (fun F s p L o0 o1 o2 hS hLl hL => ?_)
 have hLm := hL hok.1
 refine AWp.meetA (σ := Unit) ⟨fun _ => [(1, .bx 1 0)], fun _ => [(1, wldC w)], fun _ st' => ∀ u ∈ w.U, u.inn = 0 -> qf w u.id u.kind u.pos⟩ ?_ ?_
 ·refine AWp.of_vc zd ?_
  refine AWp.loop (σ := Nat × Store × AV × AV × AV) ⟨fun x => [(1, .bx 1 0), (8, .av (ptr s)), (64, .av (lst 10 untC w.U)), (65, .av (int (w.U.length : Nat))), (66, .av (int (x.1 : Nat)))], fun _ => [(1, wldC w)],
   fun x st' => x.1 <= w.U.length /\ st' = x.2.1.un (stS s w x.2.2.1 x.2.2.2.1 x.2.2.2.2 p) /\ StandAt x.2.1 s p w L x.2.2.1 x.2.2.2.1 x.2.2.2.2 /\ ∀ j, (hj : j < w.U.length) -> j < x.1 -> w.U[j].inn = 0 -> qf w w.U[j].id w.U[j].kind w.U[j].pos, fun x => w.U.length - x.1⟩ zd ?_ ?_
  ·refine ⟨(0, F, o0, o1, o2), Tv, ⟨Nat.zero_le _, rfl, hS, fun j _ hj => by omega⟩, ⟨Tq, Tq, Tq, ?_, Tq, Tv⟩, ⟨rfl, Tv⟩⟩
   rw [<- zi (f := untC) w.U]; exact Tq
  rintro ⟨i, F1, a0, a1, a2⟩ st' ⟨hi, rfl, hS1, hcl⟩
  dsimp only at hi hS1 hcl ⊢
  refine bcd (fun h1 => ?_) (fun h1 => ?_)
  rotate_left
  ·have : i = w.U.length := by omega
   subst this
   refine ⟨(), fun u hu h0 => ?_, ⟨Tq, Tv⟩, ⟨rfl, Tv⟩⟩
   obtain ⟨j, hj, rfl⟩ := List.getElem_of_mem hu
   exact hcl j hj hj h0
  have hlt : i < w.U.length := by omega
  have hui := List.getElem_mem hlt
  have next : (w.U[i].inn = 0 -> qf w w.U[i].id w.U[i].kind w.U[i].pos) -> ∀ j, (hj : j < w.U.length) -> j < i + 1 -> w.U[j].inn = 0 -> qf w w.U[j].id w.U[j].kind w.U[j].pos := fun hq j hj hji => by
   by_cases e : j = i
   ·subst e; exact hq
   ·exact hcl j hj (by omega)
  refine ⟨i, rfl, za _ (zg hlt) ?_⟩
  refine bceq (fun c2 => ?_) (fun c2 => ?_)
  ·refine zgc hS1 hg (by omega) hbb hok.1 (by omega) hn hLl hLm w.U[i].id w.U[i].kind w.U[i].pos (hn _ hui) _ (fun z F2 b0 b1 b2 hz hS2 => ?_)
   refine y5 ?_
   refine ze (fun c3 => ?_) (fun c3 => ret (no fun q => by have := hz.2 (q.2.1 _ hui c2); rw [this] at c3; cases c3))
   refine in64 (by omega) ?_
   refine ⟨(i + 1, F2, b0, b1, b2), ?_, ⟨by dsimp only; omega, rfl, hS2, next fun _ => hz.1 c3⟩, ⟨Tq, Tq, Tq, Tq, Tq, Tv⟩, ⟨rfl, Tv⟩⟩
   show w.U.length - (i + 1) < w.U.length - i
   omega
  ·refine in64 (by omega) ?_
   refine ⟨(i + 1, F1, a0, a1, a2), ?_, ⟨by dsimp only; omega, rfl, hS1, next fun h0 => absurd h0 c2⟩, ⟨Tq, Tq, Tq, Tq, Tq, Tv⟩, ⟨rfl, Tv⟩⟩
   show w.U.length - (i + 1) < w.U.length - i
   omega
 rintro _ st' hclear
 refine AWp.of_vc zd ?_
 refine zgg w (by omega) hok.1 _ _ (fun z hz => ?_)
 refine ret ⟨z, rfl, ?_⟩
 rw [hz]
 exact ⟨fun hq => ⟨⟨hh, hok⟩, hclear, hq⟩, fun hq => hq.2.2⟩
/-- What tells one thing, in no store, tells it in any. -/
theorem zv2 {f : FuncId} {xs : List AV} {Q : AV -> Prop} (key : ACalls Tryz.prog f xs Store.empty fun r _ => Q r) (st : Store) (R : AV -> Store -> Prop) (h : ∀ r, Q r -> R r st) : ACalls Tryz.prog f xs st R := by
 rw [<- zql st]
 refine ACalls.post (ACalls.frame (R' := fun r st' => Q r /\ ∃ a', st' = a'.un st) (fun b hb => ?_) key fun r a' h1 _ => ⟨h1, a', rfl⟩) (Store.Le.refl _) fun r st' ⟨h1, a', h2⟩ => ⟨r, st, Tt, h2 ▸ zrd, ?_⟩
 ·exact (hb.elim (fun h => h rfl) (fun h => h rfl) : False).elim
 ·exact h r h1
theorem zqe (w : Wld) (hw : w.fits) (hn : ∀ u ∈ w.U, u.pos.ok) (st : Store) (R : AV -> Store -> Prop) (h : ∀ z : Bool, (z = true ↔ mayP w) -> R (V.bool z) st) : ACalls Tryz.prog 28 [.agg (wldC w)] st R :=
 zv2 (zuz w hw hn) st R fun r ⟨z, e, hz⟩ => e ▸ h z hz
theorem zil (w : Wld) (hU : w.U.length <= 1000000) (id : Int) (st : Store) (R : AV -> Store -> Prop) (h : R (int (idxI (w.U.findIdx? fun u => decide (u.id = id)))) st) : ACalls Tryz.prog 21 [.agg (wldC w), int id] st R := by
 refine ACalls.of_body (c := cfg 22) zd Tryz.func21 (by rfl) (by rfl) (by rfl) (by rfl) ?_
 refine AWp.loop (σ := Nat) ⟨fun i => [(1, .av (int id)), (2, .bx 2 0), (5, .av (int (i : Nat)))], fun _ => [(2, wldC w)],
  fun i st' => i <= w.U.length /\ st' = st /\ ∀ j, (hj : j < w.U.length) -> j < i -> w.U[j].id ≠ id, fun i => w.U.length - i⟩ zd ?_ ?_
 ·exact ⟨0, Tv, ⟨Nat.zero_le _, rfl, fun j _ hj => by omega⟩, ⟨Tq, Tq, Tq, Tv⟩, ⟨rfl, Tv⟩⟩
 rintro i st' ⟨hi, rfl, hall⟩
 refine ze (fun h1 => ?_) (fun h1 => ?_)
 rotate_left
 ·have : i = w.U.length := xq h1 hi
  subst this
  have e : (w.U.findIdx? fun u => decide (u.id = id)) = none := by
   rw [List.findIdx?_eq_none_iff]
   intro x hx
   obtain ⟨j, hj, rfl⟩ := List.getElem_of_mem hx
   exact decide_eq_false (hall j hj hj)
  rw [e] at h
  exact ret h
 have hlt := ql h1
 refine ⟨i, rfl, za _ (zg hlt) ?_⟩
 refine bceq (fun c1 => ?_) (fun c1 => ?_)
 ·have e : (w.U.findIdx? fun u => decide (u.id = id)) = some i := by
   rw [List.findIdx?_eq_some_iff_getElem]
   exact ⟨hlt, decide_eq_true c1, fun j hj => by simpa using hall j (by omega) hj⟩
  rw [e] at h
  exact ret h
 ·refine in64 (by omega) ?_
  refine ⟨i + 1, ?_, ⟨by omega, rfl, fun j hj hj2 => ?_⟩, ⟨Tq, Tq, Tq, Tv⟩, ⟨rfl, Tv⟩⟩
  ·show w.U.length - (i + 1) < w.U.length - i
   omega
  ·by_cases e : j = i
   ·subst e; exact c1
   ·exact hall j hj (by omega)
theorem zle {l : List Unt} {i : Nat} (hi : i < l.length) (id : Int) : inOf (l.take (i + 1)) id = inOf (l.take i) id ++ (if l[i].inn = id then [l[i].id] else []) := by
 unfold inOf
 rw [List.take_succ_eq_append_getElem hi, List.filter_append, List.map_append]
 by_cases h : l[i].inn = id <;> simp [h]
theorem zet (w : Wld) (hU : w.U.length <= 1000000) (id : Int) (st : Store) (R : AV -> Store -> Prop) (h : R (ints (inOf w.U id)) st) : ACalls Tryz.prog 23 [.agg (wldC w), int id] st R := by
 refine ACalls.of_body (c := cfg 32) zd Tryz.func23 (by rfl) (by rfl) (by rfl) (by rfl) ?_
 refine AWp.loop (σ := Nat × AV) ⟨fun x => [(1, .av (int id)), (2, .bx 2 0), (5, .av x.2), (6, .av (int (x.1 : Nat)))], fun _ => [(2, wldC w)],
  fun x st' => x.1 <= w.U.length /\ App 1 st x.2 (rws intC (inOf (w.U.take x.1) id)) st', fun x => w.U.length - x.1⟩ zd ?_ ?_
 ·exact ⟨(0, _), Tv, ⟨Nat.zero_le _, App.start 1 st⟩, ⟨Tq, Tq, Tq, Tq, Tv⟩, ⟨rfl, Tv⟩⟩
 rintro ⟨i, v⟩ st' ⟨hi, ha⟩
 dsimp only at hi ha ⊢
 refine ze (fun h1 => ?_) (fun h1 => ?_)
 rotate_left
 ·have : i = w.U.length := xq h1 hi
  subst this
  rw [List.take_length] at ha
  exact ⟨_, st, AV.le_trans ha.le (Tt), ha.has, h⟩
 have hlt := ql h1
 have hs := zle hlt id
 have hl1 : (inOf (w.U.take i) id).length <= 1000000 := by
  have h1 := zgq (l := w.U) i id
  have h2 : (inOf w.U id).length <= w.U.length := by unfold inOf; rw [List.length_map]; exact List.length_filter_le _ _
  omega
 refine ⟨i, rfl, za _ (zg hlt) ?_⟩
 refine bceq (fun c1 => ?_) (fun c1 => ?_)
 ·rw [if_pos c1] at hs
  refine ⟨i, rfl, za _ (zg hlt) ?_⟩
  refine ⟨by decide, ?_⟩
  refine qu (ie := ti3) (rows' := [intC w.U[i].id]) ha ?_ ?_ ⟨?_, ?_⟩ (fun v3 st3 ha3 => ?_)
  ·rfl
  ·rfl
  ·simp only [zi, List.length_singleton, ti3]; omega
  ·simp only [zi, List.length_singleton]; omega
  refine in64 (by omega) ?_
  refine ⟨(i + 1, v3), ?_, ⟨by dsimp only; omega, ?_⟩, ⟨Tq, Tq, Tq, Tq, Tv⟩, ⟨rfl, Tv⟩⟩
  ·show w.U.length - (i + 1) < w.U.length - i
   omega
  ·dsimp only
   rw [hs]
   unfold rws
   rw [List.map_append]
   exact ha3
 ·rw [if_neg c1, List.append_nil] at hs
  refine in64 (by omega) ?_
  refine ⟨(i + 1, v), ?_, ⟨by dsimp only; omega, ?_⟩, ⟨Tq, Tq, Tq, Tq, Tv⟩, ⟨rfl, Tv⟩⟩
  ·show w.U.length - (i + 1) < w.U.length - i
   omega
  ·dsimp only
   rw [hs]
   exact ha
theorem zgh (w : Wld) (hg : gndP w.G) (hB : w.B.length <= 1000000000000) (hb : ∀ b ∈ w.B, bldP b /\ onP w.G b) (hU : w.U.length <= 1000000) (hn : ∀ u ∈ w.U, u.pos.ok) (hk : ∀ u ∈ w.U, x9 u.kind) (id k : Int) (hkk : x9 k) (q : Vc) (hq : q.ok) (st : Store) (R : AV -> Store -> Prop)
  (h : ∀ z : Bool, (z = true ↔ qf w id k q) -> R (V.bool z) st) : ACalls Tryz.prog 20 [.agg (wldC w), int id, int k, .agg (vecC q)] st R := by
 have no : ¬ qf w id k q -> R (V.bool false) st := fun hh => h false (by simp only [Bool.false_eq_true, false_iff]; exact hh)
 have hr := zc2 k
 have hplace : qf w id k q -> yx q.1 q.2 := fun hh => by
  have h1 := hh.1.1
  have h2 := hg.1
  have h3 := hg.2.1
  unfold yx
  omega
 refine ACalls.of_body (c := cfg 79) zd Tryz.func20 (by rfl) (by rfl) (by rfl) (by rfl) ?_
 refine kq k hkk _ _ ?_
 refine bcd (fun c1 => ret (no fun hh => by have := hplace hh; unfold yx at this; omega)) (fun c1 => ?_)
 refine bcd (fun c2 => ret (no fun hh => by have := hplace hh; unfold yx at this; omega)) (fun c2 => ?_)
 refine bcd (fun c3 => ret (no fun hh => by have := hplace hh; unfold yx at this; omega)) (fun c3 => ?_)
 refine bcd (fun c4 => ret (no fun hh => by have := hplace hh; unfold yx at this; omega)) (fun c4 => ?_)
 have e1 : Int.negSucc 1099511627775 = -1099511627776 := rfl
 refine zij w.G hg w.B hB hb (kCls k) (zq8 k) q (by unfold yx; omega) (kRad k) ⟨hr.1, by omega⟩ _ _ (fun z hz => ?_)
 refine y5 ?_
 refine ze (fun c5 => ?_) (fun c5 => ret (no fun hh => by have := hz.2 hh.1; rw [this] at c5; cases c5))
 have hfree := hz.1 c5
 refine AWp.loop (σ := Nat) ⟨fun i => [(1, .av (int id)), (4, .bx 4 0), (7, .bx 7 0), (9, .bx 9 0), (10, .av (int (i : Nat)))], fun _ => [(4, wldC w), (7, vecC q), (9, zgm k)],
  fun i st' => i <= w.U.length /\ st' = st /\ ∀ j, (hj : j < w.U.length) -> j < i -> w.U[j].inn = 0 -> w.U[j].id ≠ id -> k6 q (kRad k) w.U[j].pos (kRad w.U[j].kind) = true, fun i => w.U.length - i⟩ zd ?_ ?_
 ·exact ⟨0, Tv, ⟨Nat.zero_le _, rfl, fun j _ hj => by omega⟩, ⟨Tq, Tq, Tq, Tq, Tq, Tv⟩, ⟨rfl, rfl, rfl, Tv⟩⟩
 rintro i st' ⟨hi, rfl, hall⟩
 refine ze (fun h1 => ?_) (fun h1 => ?_)
 rotate_left
 ·have : i = w.U.length := xq h1 hi
  subst this
  refine ret (h true (by
   simp only [true_iff]
   refine ⟨hfree, fun u hu h0 hne => ?_⟩
   obtain ⟨j, hj, rfl⟩ := List.getElem_of_mem hu
   exact hall j hj hj h0 hne))
 have hlt := ql h1
 have hui := List.getElem_mem hlt
 have next : (w.U[i].inn = 0 -> w.U[i].id ≠ id -> k6 q (kRad k) w.U[i].pos (kRad w.U[i].kind) = true) -> ∀ j, (hj : j < w.U.length) -> j < i + 1 -> w.U[j].inn = 0 -> w.U[j].id ≠ id -> k6 q (kRad k) w.U[j].pos (kRad w.U[j].kind) = true := fun hh j hj hji => by
  by_cases e : j = i
  ·subst e; exact hh
  ·exact hall j hj (by omega)
 refine ⟨i, rfl, za _ (zg hlt) ?_⟩
 refine ADraw.of_sched zd (by rfl) (by rfl) zus (by rfl) ?_
 refine bceq (fun c6 => ?_) (fun c6 => ?_)
 rotate_left
 ·refine ⟨⟨(by repeat (first | exact Tv | refine ⟨rfl, ?_⟩ | refine ⟨optR (optR (optR (za _ (zb _ _ _) rfl))), ?_⟩)), ?_⟩, Tv⟩
  refine ⟨⟨Tv, ?_⟩, Tv⟩
  refine in64 (by omega) ?_
  refine ⟨i + 1, ?_, ⟨by omega, rfl, next fun h0 => absurd h0 c6⟩, ⟨Tq, Tq, Tq, Tq, Tq, Tv⟩, ⟨rfl, rfl, rfl, Tv⟩⟩
  show w.U.length - (i + 1) < w.U.length - i
  omega
 refine bcne (fun c7 => ?_) (fun c7 => ?_)
 rotate_left
 ·refine ⟨⟨(by repeat (first | exact Tv | refine ⟨rfl, ?_⟩ | refine ⟨optR (optR (optR (za _ (zb _ _ _) rfl))), ?_⟩)), ?_⟩, Tv⟩
  refine ⟨⟨Tv, ?_⟩, Tv⟩
  refine in64 (by omega) ?_
  refine ⟨i + 1, ?_, ⟨by omega, rfl, next fun _ hne => absurd c7 hne⟩, ⟨Tq, Tq, Tq, Tq, Tq, Tv⟩, ⟨rfl, rfl, rfl, Tv⟩⟩
  show w.U.length - (i + 1) < w.U.length - i
  omega
 have hr2 := zc2 w.U[i].kind
 refine ⟨kq w.U[i].kind (hk _ hui) _ _ ⟨(by repeat (first | exact Tv | refine ⟨rfl, ?_⟩ | refine ⟨optR (optR (optR (za _ (zb _ _ _) rfl))), ?_⟩)), ?_⟩, Tv⟩
 refine ⟨zgi q (kRad k) w.U[i].pos (kRad w.U[i].kind) hq (hn _ hui) ⟨hr.1, by omega⟩ ⟨hr2.1, by omega⟩ _ _ ⟨Tv, ?_⟩, Tv⟩
 refine y5 ?_
 refine ze (fun c8 => ?_) (fun c8 => ret (no fun hh => by have := hh.2 _ hui c6 c7; rw [this] at c8; cases c8))
 refine in64 (by omega) ?_
 refine ⟨i + 1, ?_, ⟨by omega, rfl, next fun _ _ => c8⟩, ⟨Tq, Tq, Tq, Tq, Tq, Tv⟩, ⟨rfl, rfl, rfl, Tv⟩⟩
 show w.U.length - (i + 1) < w.U.length - i
 omega
theorem stOf {s g : Int} : (!((s == 1) == (g != -1))) = false ↔ (s = 1 ↔ g ≠ -1) := by
 by_cases h1 : s = 1 <;> by_cases h2 : g = -1 <;> simp [bne, beqD, h1, h2]
theorem zk6 (k : Int) (st : Store) (R : AV -> Store -> Prop) (h : ∀ z a b c d e, (z = true ↔ x9 k) -> R (.tup [.agg [int a, int b, int c, int d, int e], V.bool z]) st) : ACalls Tryz.prog 39 [int k] st R :=
 zhr k st R (fun hk => h true _ _ _ _ _ (by simp only [true_iff]; exact hk)) (fun hk => h false 0 0 0 0 0 (by simp only [Bool.false_eq_true, false_iff]; exact hk))
set_option maxHeartbeats 4000000 in
set_option maxRecDepth 20000 in
theorem zii (w : Wld) (hw : w.fits) (st : Store) (R : AV -> Store -> Prop) (h : ∀ z : Bool, (z = true ↔ ze6 w /\ vf w) -> R (V.bool z) st) : ACalls Tryz.prog 19 [.agg (wldC w)] st R := by
 obtain ⟨hw1, hw2, hw3⟩ := hw
 have no : ¬ (ze6 w /\ vf w) -> R (V.bool false) st := fun hh => h false (by simp only [Bool.false_eq_true, false_iff]; exact hh)
 refine ACalls.of_body (c := cfg 218) zd Tryz.func19 (by rfl) (by rfl) (by rfl) (by rfl) ?_
 refine zkx w.tick 1099511627776 _ _ (fun z hz => ?_)
 refine y5 ?_
 refine ze (fun c0 => ?_) (fun c0 => ret (no fun q => by have := hz.2 q.1.1.1; rw [this] at c0; cases c0))
 have htick := hz.1 c0
 refine bcd (fun c1 => ret (no fun q => by have := q.1.1; omega)) (fun c1 => ?_)
 refine bcd (fun c2 => ret (no fun q => by have := q.1.1; omega)) (fun c2 => ?_)
 refine bcd (fun c3 => ret (no fun q => by have := q.1.1; omega)) (fun c3 => ?_)
 refine bcd (fun c4 => ret (no fun q => by have := q.1.1; omega)) (fun c4 => ?_)
 refine zce w.G hw1 w.B hw2 _ _ (fun z hz => ?_)
 refine y5 ?_
 refine ze (fun c5 => ?_) (fun c5 => ret (no fun q => by have := hz.2 ⟨q.1.2.1.1, q.1.2.1.2.1⟩; rw [this] at c5; cases c5))
 obtain ⟨hg, hbl⟩ := hz.1 c5
 have hBl : w.B.length <= 256 := hbl.1
 have hUl : ((rws untC w.U).length : Int) = (w.U.length : Int) := by rw [zi]
 refine bcd (fun c6 => ret (no fun q => by have := q.1.2.1.2.2; omega)) (fun c6 => ?_)
 refine AWp.loop (σ := Nat) ⟨fun i => [(1, .bx 1 0), (3, .av (int (i : Nat)))], fun _ => [(1, wldC w)],
  fun i st' => i <= w.B.length /\ st' = st /\ ∀ j, (hj : j < w.B.length) -> j < i -> w.B[j].owner <= w.players /\ w.B[j].id < w.next, fun i => w.B.length - i⟩ zd ?_ ?_
 ·exact ⟨0, Tv, ⟨Nat.zero_le _, rfl, fun j _ hj => by omega⟩, ⟨Tq, Tq, Tv⟩, ⟨rfl, Tv⟩⟩
 rintro i st' ⟨hi, rfl, hall⟩
 refine ze (fun h1 => ?_) (fun h1 => ?_)
 ·have hlt := ql h1
  refine ADraw.of_sched zd (by rfl) (by rfl) zut (by rfl) ?_
  refine ⟨i, rfl, za _ (zg hlt) ?_⟩
  refine bcd (fun c7 => ret (no fun q => by have := q.1.2.2 _ (List.getElem_mem hlt); omega)) (fun c7 => ?_)
  refine ⟨i, rfl, za _ (zg hlt) ?_⟩
  refine bcd (fun c8 => ret (no fun q => by have := q.1.2.2 _ (List.getElem_mem hlt); omega)) (fun c8 => ?_)
  refine in64 (by omega) ?_
  refine ⟨i + 1, ?_, ⟨by omega, rfl, fun j hj hji => ?_⟩, ⟨Tq, Tq, Tv⟩, ⟨rfl, Tv⟩⟩
  ·show w.B.length - (i + 1) < w.B.length - i
   omega
  ·by_cases e : j = i
   ·subst e; omega
   ·exact hall j hj (by omega)
 have hie : i = w.B.length := xq h1 hi
 subst hie
 have hhead : ze6 w := ⟨⟨htick, by omega⟩, ⟨hg, hbl, by omega⟩, fun b hb => by
  obtain ⟨j, hj, rfl⟩ := List.getElem_of_mem hb
  exact hall j hj hj⟩
 refine AWp.loop (σ := Nat) ⟨fun i => [(1, .bx 1 0), (4, .av (int (i : Nat)))], fun _ => [(1, wldC w)],
  fun i st2 => i <= w.U.length /\ st2 = st' /\ zej w i, fun i => w.U.length - i⟩ zd ?_ ?_
 ·exact ⟨0, Tv, ⟨Nat.zero_le _, rfl, fun j _ hj => by omega⟩, ⟨Tq, Tq, Tv⟩, ⟨rfl, Tv⟩⟩
 rintro i st2 ⟨hi, rfl, hup⟩
 refine ze (fun h2 => ?_) (fun h2 => ?_)
 rotate_left
 ·have : i = w.U.length := xq h2 hi
  subst this
  exact ret (h true (by simp only [true_iff]; exact ⟨hhead, zei hup⟩))
 have hlt := ql h2
 have nou : ¬ ((untP w w.U[i] /\ ∀ b ∈ w.B, b.id ≠ w.U[i].id) /\ (0 < i -> (w.U[i - 1]'(by omega)).id < w.U[i].id)) -> R (V.bool false) st2 := fun hq => no fun q => hq (zhe q.2 (i + 1) i hlt (by omega))
 refine ⟨i, rfl, za _ (zg hlt) ?_⟩
 refine zk6 w.U[i].kind _ _ (fun kz ka kb kc kd ke hk => ?_)
 refine ADraw.of_sched zd (by rfl) (by rfl) zpx (by rfl) ?_
 have skip2 : ∀ {p q : Prop}, ¬ ((untP w w.U[i] /\ ∀ b ∈ w.B, b.id ≠ w.U[i].id) /\ (0 < i -> (w.U[i - 1]'(by omega)).id < w.U[i].id)) -> ∃ r st', AV.le (V.bool false) r /\ st2.Has st' /\ R r st' := fun hq => ret (nou hq)
 refine bcd (fun c7 => ⟨⟨Tv, ⟨⟨Tv, ret (nou fun q => by have := q.1.1.1; omega)⟩, Tv⟩⟩, Tv⟩) (fun c7 => ?_)
 refine bcd (fun c8 => ⟨⟨Tv, ⟨⟨Tv, ret (nou fun q => by have := q.1.1.1; omega)⟩, Tv⟩⟩, Tv⟩) (fun c8 => ?_)
 refine bcd (fun c9 => ?_) (fun c9 => ?_)
 refine in64 (by omega) ?_
 refine ⟨i - 1, by omega, za _ (zg (show i - 1 < w.U.length by omega)) ?_⟩
 refine bcd (fun c9b => ⟨⟨Tv, ⟨⟨Tv, ret (nou fun q => by have := q.2 (by omega); omega)⟩, Tv⟩⟩, Tv⟩) (fun c9b => ?_)
 have hrise : 0 < i -> (w.U[i - 1]'(by omega)).id < w.U[i].id := fun _ => by omega
 rotate_left
 have hrise : 0 < i -> (w.U[i - 1]'(by omega)).id < w.U[i].id := fun h0 => absurd h0 (by omega)
 all_goals
  refine bcd (fun c10 => ⟨⟨Tv, ⟨⟨Tv, ret (nou fun q => by have := q.1.1.1.2.1; omega)⟩, Tv⟩⟩, Tv⟩) (fun c10 => ?_)
  refine bcd (fun c11 => ⟨⟨Tv, ⟨⟨Tv, ret (nou fun q => by have := q.1.1.1.2.1; omega)⟩, Tv⟩⟩, Tv⟩) (fun c11 => ?_)
  refine y5 ?_
  refine ze (fun ck => ?_) (fun ck => ⟨⟨Tv, ⟨⟨Tv, ret (nou fun q => by have := hk.2 q.1.1.1.2.2; rw [this] at ck; cases ck)⟩, Tv⟩⟩, Tv⟩)
  have hkind := hk.1 ck
  refine bcne (fun c12 => ?_) (fun c12 => ?_)
  refine ⟨zcu w.G w.U[i].goal hg _ _ (fun z1 hz1 => ⟨Tv, ?_⟩), Tv⟩
  refine y5 ?_
  refine ze (fun c12b => ?_) (fun c12b => ⟨⟨Tv, ret (nou fun q => by have := q.1.1.2.1.1; unfold wq at this; have := hz1.2 (this.resolve_left c12); rw [this] at c12b; cases c12b)⟩, Tv⟩)
  have ht1 : wq w.G w.U[i].goal := .inr (hz1.1 c12b)
  rotate_left
  refine ⟨⟨Tv, ?_⟩, Tv⟩
  have ht1 : wq w.G w.U[i].goal := .inl c12
  all_goals
   refine bcne (fun c13 => ?_) (fun c13 => ?_)
   refine ⟨zcu w.G w.U[i].next hg _ _ (fun z2 hz2 => ⟨Tv, ?_⟩), Tv⟩
   refine y5 ?_
   refine ze (fun c14 => ?_) (fun c14 => ret (nou fun q => by have := q.1.1.2.1.2.1; unfold wq at this; have := hz2.2 (this.resolve_left c13); rw [this] at c14; cases c14))
   have ht2 : wq w.G w.U[i].next := .inr (hz2.1 c14)
   rotate_left
   refine ⟨⟨Tv, ?_⟩, Tv⟩
   have ht2 : wq w.G w.U[i].next := .inl c13
   all_goals
    refine bcd (fun d1 => ret (nou fun q => by have := q.1.1.2.1.2.2; omega)) (fun d1 => ?_)
    refine bcd (fun d2 => ret (nou fun q => by have := q.1.1.2.1.2.2; omega)) (fun d2 => ?_)
    refine bcd (fun d3 => ret (nou fun q => by have := q.1.1.2.2.1.1; omega)) (fun d3 => ?_)
    refine bcd (fun d4 => ret (nou fun q => by have := q.1.1.2.2.1.1; omega)) (fun d4 => ?_)
    refine ze (fun d5 => ret (nou fun q => by have := stOf.2 q.1.1.2.2.1.2; rw [this] at d5; cases d5)) (fun d5 => ?_)
    have hst := stOf.1 d5
    have go : (w.U[i].goal = -1 -> w.U[i].next = -1 /\ w.U[i].stuck = 0) -> untP w w.U[i] := fun hq => ⟨⟨by omega, by omega, hkind⟩, ⟨ht1, ht2, by omega⟩, ⟨by omega, hst⟩, hq⟩
    refine bceq (fun d6 => ?_) (fun d6 => ?_)
    refine bcne (fun d7 => ret (nou fun q => d7 (q.1.1.2.2.2 d6).1)) (fun d7 => ?_)
    refine bcne (fun d8 => ret (nou fun q => d8 (q.1.1.2.2.2 d6).2)) (fun d8 => ?_)
    have hunt := go fun _ => ⟨d7, d8⟩
    rotate_left
    have hunt := go fun e => absurd e d6
    all_goals
     refine AWp.loop (σ := Nat) ⟨fun k => [(1, .bx 1 0), (4, .av (int (i : Nat))), (5, .bx 5 0), (8, .av (int (k : Nat)))], fun _ => [(1, wldC w), (5, untC w.U[i])],
      fun k st3 => k <= w.B.length /\ st3 = st2 /\ ∀ j, (hj : j < w.B.length) -> j < k -> w.B[j].id ≠ w.U[i].id, fun k => w.B.length - k⟩ zd ?_ ?_
     ·exact ⟨0, Tv, ⟨Nat.zero_le _, rfl, fun j _ hj => by omega⟩, ⟨Tq, Tq, Tq, Tq, Tv⟩, ⟨rfl, rfl, Tv⟩⟩
     rintro k st3 ⟨hk3, rfl, hne⟩
     refine ze (fun e1 => ?_) (fun e1 => ?_)
     ·have hkl := ql e1
      refine ADraw.of_sched zd (by rfl) (by rfl) zpw (by rfl) ?_
      refine ⟨k, rfl, za _ (zg hkl) ?_⟩
      refine bceq (fun e2 => ret (nou fun q => q.1.2 _ (List.getElem_mem hkl) e2)) (fun e2 => ?_)
      refine in64 (by omega) ?_
      refine ⟨k + 1, ?_, ⟨by omega, rfl, fun j hj hjk => ?_⟩, ⟨Tq, Tq, Tq, Tq, Tv⟩, ⟨rfl, rfl, Tv⟩⟩
      ·show w.B.length - (k + 1) < w.B.length - k
       omega
      ·by_cases e : j = k
       ·subst e; exact e2
       ·exact hne j hj (by omega)
     have hke : k = w.B.length := xq e1 hk3
     subst hke
     refine in64 (by omega) ?_
     refine ⟨i + 1, ?_, ⟨by omega, rfl, fun j hj hji => ?_⟩, ⟨Tq, Tq, Tv⟩, ⟨rfl, Tv⟩⟩
     ·show w.U.length - (i + 1) < w.U.length - i
      omega
     ·by_cases e : j = i
      ·subst e
       refine ⟨⟨hunt, fun b hb => ?_⟩, hrise⟩
       obtain ⟨m, hm, rfl⟩ := List.getElem_of_mem hb
       exact hne m hm hm
      ·exact hup j hj (by omega)
set_option maxHeartbeats 4000000 in
set_option maxRecDepth 20000 in
theorem zkj (w : Wld) (hw : w.fits) (hn : ∀ u ∈ w.U, u.pos.ok) (st : Store) (R : AV -> Store -> Prop) (h : ∀ z : Bool, (z = true ↔ mayP w) -> R (V.bool z) st) : ACalls Tryz.prog 7 [.agg (wldC w)] st R := by
 have no : ¬ mayP w -> R (V.bool false) st := fun hh => h false (by simp only [Bool.false_eq_true, false_iff]; exact hh)
 refine ACalls.of_body (c := cfg 98) zd Tryz.func7 (by rfl) (by rfl) (by rfl) (by rfl) ?_
 refine zii w hw _ _ (fun z hz => ?_)
 refine y5 ?_
 refine ze (fun c1 => ?_) (fun c1 => ret (no fun q => by have := hz.2 q.1; rw [this] at c1; cases c1))
 obtain ⟨hh, hok⟩ := hz.1 c1
 have hg := hh.2.1.1
 have hbl := hh.2.1.2.1
 have hBl : w.B.length <= 256 := hbl.1
 have hU : w.U.length <= 4096 := hh.2.1.2.2
 have hbb : ∀ b ∈ w.B, bldP b /\ onP w.G b := fun b hb => ⟨(hbl.2.2.1 b hb).1, (hbl.2.2.1 b hb).2.1⟩
 have hkk : ∀ u ∈ w.U, x9 u.kind := fun u hu => (hok.2 u hu).1.1.2.2
 refine AWp.loop (σ := Nat) ⟨fun i => [(1, .bx 1 0), (3, .av (int (i : Nat)))], fun _ => [(1, wldC w)],
  fun i st' => i <= w.U.length /\ st' = st /\ ∀ j, (hj : j < w.U.length) -> j < i -> (w.U[j].inn = 0 -> qf w w.U[j].id w.U[j].kind w.U[j].pos) /\ (w.U[j].inn ≠ 0 -> k5 w w.U[j]), fun i => w.U.length - i⟩ zd ?_ ?_
 ·exact ⟨0, Tv, ⟨Nat.zero_le _, rfl, fun j _ hj => by omega⟩, ⟨Tq, Tq, Tv⟩, ⟨rfl, Tv⟩⟩
 rintro i st' ⟨hi, rfl, hall⟩
 refine ze (fun h1 => ?_) (fun h1 => ?_)
 rotate_left
 ·have : i = w.U.length := xq h1 hi
  subst this
  refine ret (h true (by
   simp only [true_iff]
   refine ⟨⟨hh, hok⟩, fun u hu h0 => ?_, fun u hu h0 => ?_⟩
   ·obtain ⟨j, hj, rfl⟩ := List.getElem_of_mem hu
    exact (hall j hj hj).1 h0
   ·obtain ⟨j, hj, rfl⟩ := List.getElem_of_mem hu
    exact (hall j hj hj).2 h0))
 have hlt := ql h1
 have hui := List.getElem_mem hlt
 have next : ((w.U[i].inn = 0 -> qf w w.U[i].id w.U[i].kind w.U[i].pos) /\ (w.U[i].inn ≠ 0 -> k5 w w.U[i])) -> ∀ j, (hj : j < w.U.length) -> j < i + 1 -> (w.U[j].inn = 0 -> qf w w.U[j].id w.U[j].kind w.U[j].pos) /\ (w.U[j].inn ≠ 0 -> k5 w w.U[j]) := fun hq j hj hji => by
  by_cases e : j = i
  ·subst e; exact hq
  ·exact hall j hj (by omega)
 refine ⟨i, rfl, za _ (zg hlt) ?_⟩
 refine bceq (fun c2 => ?_) (fun c2 => ?_)
 ·refine zgh w hg (by omega) hbb (by omega) hn hkk w.U[i].id w.U[i].kind (hkk _ hui) w.U[i].pos (hn _ hui) _ _ (fun z hz => ?_)
  refine y5 ?_
  refine ze (fun c3 => ?_) (fun c3 => ret (no fun q => by have := hz.2 (q.2.1 _ hui c2); rw [this] at c3; cases c3))
  refine in64 (by omega) ?_
  refine ⟨i + 1, ?_, ⟨by omega, rfl, next ⟨fun _ => hz.1 c3, fun hne => absurd c2 hne⟩⟩, ⟨Tq, Tq, Tv⟩, ⟨rfl, Tv⟩⟩
  show w.U.length - (i + 1) < w.U.length - i
  omega
 have nou : ¬ k5 w w.U[i] -> R (V.bool false) st' := fun hq => no fun q => hq (q.2.2 _ hui c2)
 refine zil w (by omega) w.U[i].inn _ _ ?_
 cases hf : w.U.findIdx? fun u => decide (u.id = w.U[i].inn) with
 | none =>
  have hno : ¬ k5 w w.U[i] := fun ⟨x, hx, e, _⟩ => by
   rw [List.findIdx?_eq_none_iff] at hf
   have := hf x hx
   rw [decide_eq_false_iff_not] at this
   exact this e
  refine ADraw.of_sched zd (by rfl) (by rfl) zke (by rfl) ?_
  exact ⟨⟨(by repeat (first | exact Tv | refine ⟨rfl, ?_⟩ | refine ⟨optR (optR (optR (za _ (zb _ _ _) rfl))), ?_⟩)), ⟨⟨(by repeat (first | exact Tv | refine ⟨rfl, ?_⟩ | refine ⟨optR (optR (optR (za _ (zb _ _ _) rfl))), ?_⟩)), ⟨⟨(by repeat (first | exact Tv | refine ⟨rfl, ?_⟩ | refine ⟨optR (optR (optR (za _ (zb _ _ _) rfl))), ?_⟩)), ret (nou hno)⟩, Tv⟩⟩, Tv⟩⟩, Tv⟩
 | some k =>
  rw [List.findIdx?_eq_some_iff_getElem] at hf
  obtain ⟨hkl, hkid, _⟩ := hf
  have hkid := of_decide_eq_true hkid
  have uniq : k5 w w.U[i] -> (w.U[k].inn = 0 /\ w.U[k].owner = w.U[i].owner) /\ ((inOf w.U w.U[i].inn).length : Int) <= jn w.U[k].kind := fun ⟨x, hx, e, e2, e3, _⟩ => by
   have := xg hok.1 hx (List.getElem_mem hkl) (by rw [e, hkid])
   subst this
   exact ⟨e2, e3⟩
  refine ADraw.of_sched zd (by rfl) (by rfl) zke (by rfl) ?_
  refine ⟨k, rfl, za _ (zg hkl) ?_⟩
  refine bcne (fun c4 => ⟨⟨(by repeat (first | exact Tv | refine ⟨rfl, ?_⟩ | refine ⟨optR (optR (optR (za _ (zb _ _ _) rfl))), ?_⟩)), ⟨⟨(by repeat (first | exact Tv | refine ⟨rfl, ?_⟩ | refine ⟨optR (optR (optR (za _ (zb _ _ _) rfl))), ?_⟩)), ⟨⟨(by repeat (first | exact Tv | refine ⟨rfl, ?_⟩ | refine ⟨optR (optR (optR (za _ (zb _ _ _) rfl))), ?_⟩)), ret (nou (fun q => c4 (uniq q).1.1))⟩, Tv⟩⟩, Tv⟩⟩, Tv⟩) (fun c4 => ?_)
  refine ⟨k, rfl, za _ (zg hkl) ?_⟩
  refine bcne (fun c5 => ⟨⟨(by repeat (first | exact Tv | refine ⟨rfl, ?_⟩ | refine ⟨optR (optR (optR (za _ (zb _ _ _) rfl))), ?_⟩)), ⟨⟨(by repeat (first | exact Tv | refine ⟨rfl, ?_⟩ | refine ⟨optR (optR (optR (za _ (zb _ _ _) rfl))), ?_⟩)), ⟨⟨(by repeat (first | exact Tv | refine ⟨rfl, ?_⟩ | refine ⟨optR (optR (optR (za _ (zb _ _ _) rfl))), ?_⟩)), ret (nou (fun q => c5 (uniq q).1.2))⟩, Tv⟩⟩, Tv⟩⟩, Tv⟩) (fun c5 => ?_)
  refine ⟨kq w.U[i].kind (hkk _ hui) _ _ ⟨(by repeat (first | exact Tv | refine ⟨rfl, ?_⟩ | refine ⟨optR (optR (optR (za _ (zb _ _ _) rfl))), ?_⟩)), ?_⟩, Tv⟩
  refine bcd (fun c6 => ⟨⟨(by repeat (first | exact Tv | refine ⟨rfl, ?_⟩ | refine ⟨optR (optR (optR (za _ (zb _ _ _) rfl))), ?_⟩)), ⟨⟨(by repeat (first | exact Tv | refine ⟨rfl, ?_⟩ | refine ⟨optR (optR (optR (za _ (zb _ _ _) rfl))), ?_⟩)), ret (nou (fun ⟨x, _, _, _, _, e, _⟩ => by omega))⟩, Tv⟩⟩, Tv⟩) (fun c6 => ?_)
  have hroom : jn w.U[i].kind = 0 := by have := zgn w.U[i].kind; omega
  refine ⟨k, rfl, za _ (zg hkl) ?_⟩
  refine ⟨zet w (by omega) w.U[i].inn _ _ ⟨?_, ?_⟩, Tv⟩
  ·repeat (first | exact Tv | refine ⟨rfl, ?_⟩ | refine ⟨⟨k, rfl, za _ (zg hkl) rfl⟩, ?_⟩)
  refine ⟨kq w.U[k].kind (hkk _ (List.getElem_mem hkl)) _ _ ⟨?_, ?_⟩, Tv⟩
  ·repeat (first | exact Tv | refine ⟨rfl, ?_⟩)
  have hrl : ((rws intC (inOf w.U w.U[i].inn)).length : Int) = ((inOf w.U w.U[i].inn).length : Int) := by rw [zi]
  refine bcd (fun c7 => ret (nou fun q => by have := (uniq q).2; omega)) (fun c7 => ?_)
  refine y5 ?_
  refine ze (fun c8 => ?_) (fun c8 => ret (nou fun ⟨x, _, _, _, _, _, e, _⟩ => by rw [e] at c8; cases c8))
  have hpos : w.U[i].pos = (0, 0) := by
   have : (w.U[i].pos.1 == 0 && (w.U[i].pos.2 == 0 && true)) = true := c8
   simp at this
   exact Prod.ext this.1 this.2
  refine bcne (fun c9 => ret (nou fun ⟨x, _, _, _, _, _, _, e, _⟩ => c9 e)) (fun c9 => ?_)
  refine bcne (fun c10 => ret (nou fun ⟨x, _, _, _, _, _, _, _, e⟩ => c10 e)) (fun c10 => ?_)
  refine in64 (by omega) ?_
  refine ⟨i + 1, ?_, ⟨by omega, rfl, next ⟨fun h0 => absurd h0 c2, fun _ => ⟨w.U[k], List.getElem_mem hkl, hkid, ⟨c4, c5⟩, by omega, hroom, hpos, c9, c10⟩⟩⟩, ⟨Tq, Tq, Tv⟩, ⟨rfl, Tv⟩⟩
  show w.U.length - (i + 1) < w.U.length - i
  omega
end Go.Proofs
namespace Go.Proofs
open Go Go.V
set_option maxRecDepth 4000
theorem zp8 (g : Gnd) (hg : gndP g) (p : Vc) (h0 : (0 <= p.1 /\ p.1 < g.W * 65536) /\ (0 <= p.2 /\ p.2 < g.H * 65536)) (st : Store) (R : AV -> Store -> Prop) (h : R (int (yl g p : Nat)) st) : ACalls Tryz.prog 15 [.agg (gndC g), .agg (vecC p)] st R := by
 have hs := hg.1
 have hs2 := hg.2.1
 obtain ⟨e1, e2, _⟩ := vq hg h0
 have ha := z7 hg
 refine ACalls.of_body (c := cfg 39) zd Tryz.func15 (by rfl) (by rfl) (by rfl) (by rfl) ?_
 refine bcd (fun c1 => absurd c1 (by omega)) (fun c1 => ?_)
 refine in64 (by omega) ?_
 refine bcd (fun c1 => absurd c1 (by omega)) (fun c1 => ?_)
 refine bcd (fun c1 => absurd c1 (by omega)) (fun c1 => ?_)
 refine in64 (by omega) ?_
 refine bcd (fun c1 => absurd c1 (by omega)) (fun c1 => ?_)
 have q1 : p.1.tdiv 65536 = p.1 / 65536 := Int.tdiv_eq_ediv_of_nonneg (by omega)
 have q2 : p.2.tdiv 65536 = p.2 / 65536 := Int.tdiv_eq_ediv_of_nonneg (by omega)
 have hx : 0 <= p.1 / 65536 /\ p.1 / 65536 <= 128 := by omega
 have hy : 0 <= p.2 / 65536 /\ p.2 / 65536 <= 128 := by omega
 have hm : 0 <= g.W * (p.2 / 65536) /\ g.W * (p.2 / 65536) <= 128 * 128 := ⟨Int.mul_nonneg (by omega) hy.1, Int.mul_le_mul hs.2 hy.2 hy.1 (by decide)⟩
 refine ⟨by decide, ?_⟩
 refine in64 (by rw [q1]; omega) ?_
 refine ⟨by decide, ?_⟩
 refine in64 (by rw [q2]; omega) ?_
 refine in64 (by rw [q2]; omega) ?_
 refine in64 (by rw [q1, q2]; omega) ?_
 rw [q1, q2, <- e1]
 exact ret h
theorem zh6 (g : Gnd) (hg : gndP g) (p : Vc) (h0 : (0 <= p.1 /\ p.1 < g.W * 65536) /\ (0 <= p.2 /\ p.2 < g.H * 65536)) (st : Store) (R : AV -> Store -> Prop) (h : R (int (yl g p : Nat)) st) : ACalls Tryz.prog 32 [.agg (gndC g), .agg (vecC p)] st R := by
 have hs := hg.1
 have hs2 := hg.2.1
 obtain ⟨e1, e2, _⟩ := vq hg h0
 have ha := z7 hg
 refine ACalls.of_body (c := cfg 39) zd Tryz.func32 (by rfl) (by rfl) (by rfl) (by rfl) ?_
 refine bcd (fun c1 => absurd c1 (by omega)) (fun c1 => ?_)
 refine in64 (by omega) ?_
 refine bcd (fun c1 => absurd c1 (by omega)) (fun c1 => ?_)
 refine bcd (fun c1 => absurd c1 (by omega)) (fun c1 => ?_)
 refine in64 (by omega) ?_
 refine bcd (fun c1 => absurd c1 (by omega)) (fun c1 => ?_)
 have q1 : p.1.tdiv 65536 = p.1 / 65536 := Int.tdiv_eq_ediv_of_nonneg (by omega)
 have q2 : p.2.tdiv 65536 = p.2 / 65536 := Int.tdiv_eq_ediv_of_nonneg (by omega)
 have hx : 0 <= p.1 / 65536 /\ p.1 / 65536 <= 128 := by omega
 have hy : 0 <= p.2 / 65536 /\ p.2 / 65536 <= 128 := by omega
 have hm : 0 <= g.W * (p.2 / 65536) /\ g.W * (p.2 / 65536) <= 128 * 128 := ⟨Int.mul_nonneg (by omega) hy.1, Int.mul_le_mul hs.2 hy.2 hy.1 (by decide)⟩
 refine ⟨by decide, ?_⟩
 refine in64 (by rw [q1]; omega) ?_
 refine ⟨by decide, ?_⟩
 refine in64 (by rw [q2]; omega) ?_
 refine in64 (by rw [q2]; omega) ?_
 refine in64 (by rw [q1, q2]; omega) ?_
 rw [q1, q2, <- e1]
 exact ret h
theorem kl {S : Store} {p b : Nat} (h : p ≠ b) : (S.delObj b).obj p = S.obj p := by
 show (bif Nat.beq p b then none else S.obj p) = _
 rw [nbeq h]
 rfl
theorem zu1 {a c b : AV} (h : AV.le a c) : AV.le (.tup [a, b]) (.tup [c, b]) := by
 intro w T v hv
 cases hv with
 | tup _ cs hl hc =>
  refine .tup _ cs hl fun i x y hx hy => ?_
  match i, hx with
  | 0, hx => cases hx; exact h w T y (hc 0 _ _ rfl hy)
  | 1, hx => cases hx; exact hc 1 _ _ rfl hy
  | i + 2, hx => cases hx
theorem fne {S : Store} {p b : Nat} {x : AObj} (hf : Fresh S b) (h : S.obj p = some x) : p ≠ b := fun e => by subst e; rw [hf.1] at h; cases h
theorem zh4 {α : Type} (d : Nat -> α) (u : Nat) (x y : α) : updN (updN d u x) u y = updN d u y := funext fun t => by
 unfold updN
 split <;> rfl
theorem zkc (u : Unt) (hk : x9 u.kind) (st : Store) (R : AV -> Store -> Prop) (h : R (.s (.int .u8 (wk u))) st) : ACalls Tryz.prog 31 [.agg (untC u)] st R := by
 obtain ⟨id, owner, kind, pos, goal, next, stuck, inn, state⟩ := u
 unfold wk at h
 dsimp only at h hk
 refine ACalls.of_body (c := cfg 13) zd Tryz.func31 (by rfl) (by rfl) (by rfl) (by rfl) ?_
 have hk4 : kind = 0 \/ kind = 1 \/ kind = 2 \/ kind = 3 := by unfold x9 at hk; omega
 rcases hk4 with rfl | rfl | rfl | rfl
 ·refine ⟨0, rfl, za (x := 115) rfl ?_⟩
  refine bcne (fun d1 => ?_) (fun d1 => ?_)
  ·rw [if_neg d1] at h
   exact ret h
  ·rw [if_pos d1] at h
   exact ret h
 ·refine ⟨1, rfl, za (x := 119) rfl ?_⟩
  refine bcne (fun d1 => ?_) (fun d1 => ?_)
  ·rw [if_neg d1] at h
   exact ret h
  ·rw [if_pos d1] at h
   exact ret h
 ·refine ⟨2, rfl, za (x := 103) rfl ?_⟩
  refine bcne (fun d1 => ?_) (fun d1 => ?_)
  ·rw [if_neg d1] at h
   exact ret h
  ·rw [if_pos d1] at h
   exact ret h
 ·refine ⟨3, rfl, za (x := 99) rfl ?_⟩
  refine bcne (fun d1 => ?_) (fun d1 => ?_)
  ·rw [if_neg d1] at h
   exact ret h
  ·rw [if_pos d1] at h
   exact ret h
def zp0 : V.Sched := (sv [0, 1, 2, 3, 4, 6] (.e 5 [0, 6] (.e 7 [0] (sv [8] (.e 9 [] .done .stop)) .stop) .stop))
set_option maxHeartbeats 4000000 in
set_option maxRecDepth 20000 in
theorem zqm (w : Wld) (hf : w.fits) (hn : ∀ u ∈ w.U, u.pos.ok) : ACalls Tryz.prog 10 [.agg (wldC w)] Store.empty fun r _ => (¬ mayP w /\ r = .tup [nil, int 1]) \/ (mayP w /\ r = .tup [lst 1 jk (z8 w), int 0]) := by
 refine ACalls.of_awp (c := cfg 75 [1,2,4] []) zd Tryz.func10 (by rfl) (by rfl) (by rfl) (by rfl) ?_
 refine AWp.seq (AWp.of_vc zd ?_)
 intro p1 f1 p2 f2
 have n12 : p2 ≠ p1 := fun e => by subst e; have := f2.1; rw [zb] at this; cases this
 have o1 : ((Store.empty.setObj p1 (.cells (wldC w))).setObj p2 (.cells [.s (.slice none 0 0)])).obj p1 = some (.cells (wldC w)) := (zc (Ne.symm n12)).trans (zb _ _ _)
 have o2 : ((Store.empty.setObj p1 (.cells (wldC w))).setObj p2 (.cells [.s (.slice none 0 0)])).obj p2 = some (.cells [.s (.slice none 0 0)]) := zb _ _ _
 generalize (Store.empty.setObj p1 (.cells (wldC w))).setObj p2 (.cells [.s (.slice none 0 0)]) = S at *
 refine AWp.seq (AWp.seq (AWp.of_vc zd ?_))
 refine za (o := S.obj p1) _ o1 ?_
 refine zqe w hf hn _ _ (fun z hz => ?_)
 refine (AWp.cond (!z) rfl (y5 (ze (fun c1 => ?_) (fun c1 => ?_))))
 rotate_left
 ·have hno : ¬ mayP w := fun hh => by have := hz.2 hh; rw [this] at c1; cases c1
  refine AWp.of_vc zd ?_
  refine zp (i := ti31) (v := .s (.slice none 0 0)) (b := p2) (o := 0) (l := [.s (.slice none 0 0)]) (st2 := S.setObj p2 (.cells [.s (.slice none 0 0)])) rfl rfl rfl o2 (by decide) rfl ?_
  refine za (o := (S.setObj p2 (.cells [.s (.slice none 0 0)])).obj p2) _ (zb _ _ _) ?_
  exact ret (.inl ⟨hno, rfl⟩)
 have hm := hz.1 c1
 have fm := mayF hm
 have hT := fm.hT
 have ha := z7 fm.hg
 have hTl : ((rws u8C w.G.T).length : Int) = (w.G.T.length : Int) := by rw [zi]
 refine AWp.of_vc zd ?_
 refine AWp.seq (AWp.of_vc zd ?_)
 refine za (o := S.obj p1) _ o1 ?_
 refine wi rfl (it := ti24) (ie := ti5) rfl rfl rfl rfl rfl (n := (rws u8C w.G.T).length) ?_ ?_ (fun bb hfb => ?_)
 ·rw [zi]; show 1 * _ <= _; omega
 ·rw [zi]; omega
 rw [zi, zre, zmv w]
 have m1 : p1 ≠ bb := fun e => by subst e; rw [hfb.1] at o1; cases o1
 have m2 : p2 ≠ bb := fun e => by subst e; rw [hfb.1] at o2; cases o2
 have q1 : (S.setObj bb (.cells (ul w.G.T.length (y7 w 0)))).obj p1 = _ := (zc m1).trans o1
 have q2 : (S.setObj bb (.cells (ul w.G.T.length (y7 w 0)))).obj p2 = _ := (zc m2).trans o2
 have qb : (S.setObj bb (.cells (ul w.G.T.length (y7 w 0)))).obj bb = _ := zb _ _ _
 clear o1 o2 hfb
 generalize S.setObj bb (.cells (ul w.G.T.length (y7 w 0))) = S1 at *
 intro p4 f4
 have n41 : p1 ≠ p4 := fun e => by subst e; rw [f4.1] at q1; cases q1
 have n42 : p2 ≠ p4 := fun e => by subst e; rw [f4.1] at q2; cases q2
 have n4b : bb ≠ p4 := fun e => by subst e; rw [f4.1] at qb; cases qb
 refine zp (i := ti24) (v := .s (.slice (some ⟨bb, 0, none⟩) w.G.T.length w.G.T.length)) (b := p4) (o := 0) (l := [.s (.slice none 0 0)]) (st2 := S1.setObj p4 (.cells [.s (.slice (some ⟨bb, 0, none⟩) w.G.T.length w.G.T.length)])) rfl rfl rfl (zb _ _ _) (by decide) (by rw [zk]; rfl) ?_
 have r1 : (S1.setObj p4 (.cells [.s (.slice (some ⟨bb, 0, none⟩) w.G.T.length w.G.T.length)])).obj p1 = _ := (zc n41).trans q1
 have r2 : (S1.setObj p4 (.cells [.s (.slice (some ⟨bb, 0, none⟩) w.G.T.length w.G.T.length)])).obj p2 = _ := (zc n42).trans q2
 have rb : (S1.setObj p4 (.cells [.s (.slice (some ⟨bb, 0, none⟩) w.G.T.length w.G.T.length)])).obj bb = _ := (zc n4b).trans qb
 have r4 : (S1.setObj p4 (.cells [.s (.slice (some ⟨bb, 0, none⟩) w.G.T.length w.G.T.length)])).obj p4 = _ := zb _ _ _
 clear q1 q2 qb f4
 generalize S1.setObj p4 (.cells [.s (.slice (some ⟨bb, 0, none⟩) w.G.T.length w.G.T.length)]) = S2 at *
 refine AWp.seq (AWp.of_vc zd ?_)
 refine za (o := S2.obj p1) _ r1 ?_
 refine za (o := S2.obj p1) _ r1 ?_
 refine zc9 w.G fm.hg w.B (by have := fm.hB; omega) fm.hb _ _ (fun bc hfc => ?_)
 have t1 : (S2.setObj bc (.cells (bl w.G.T.length (covB w.G w.B)))).obj p1 = _ := (zc (fne hfc r1)).trans r1
 have t2 : (S2.setObj bc (.cells (bl w.G.T.length (covB w.G w.B)))).obj p2 = _ := (zc (fne hfc r2)).trans r2
 have t4 : (S2.setObj bc (.cells (bl w.G.T.length (covB w.G w.B)))).obj p4 = _ := (zc (fne hfc r4)).trans r4
 have tb : (S2.setObj bc (.cells (bl w.G.T.length (covB w.G w.B)))).obj bb = _ := (zc (fne hfc rb)).trans rb
 have tc : (S2.setObj bc (.cells (bl w.G.T.length (covB w.G w.B)))).obj bc = _ := zb _ _ _
 have nbc : bb ≠ bc := fne hfc rb
 clear r1 r2 r4 rb hfc
 generalize S2.setObj bc (.cells (bl w.G.T.length (covB w.G w.B))) = S3 at *
 refine AWp.seq (AWp.seq (AWp.of_vc zd ?_))
 refine za (o := S3.obj p1) _ t1 ?_
 refine AWp.of_vc zd ?_
 refine AWp.loop (σ := Nat) ⟨fun t => [(1, .av (ptr p1)), (2, .av (ptr p2)), (3, .av (int 0)), (4, .av (ptr p4)), (5, .av (blV bc w.G.T.length)), (26, .av (byts w.G.T)), (27, .av (int (w.G.T.length : Nat))), (28, .av (int (t : Nat)))], fun _ => [],
  fun t S' => t <= w.G.T.length /\ (S'.obj p1 = some (.cells (wldC w)) /\ S'.obj p2 = some (.cells [.s (.slice none 0 0)]) /\ S'.obj p4 = some (.cells [.s (.slice (some ⟨bb, 0, none⟩) w.G.T.length w.G.T.length)])) /\ S'.obj bc = some (.cells (bl w.G.T.length (covB w.G w.B))) /\ S'.obj bb = some (.cells (ul w.G.T.length (y7 w t))), fun t => w.G.T.length - t⟩ zd ?_ ?_
 ·refine ⟨0, Tv, ⟨Nat.zero_le _, ⟨t1, t2, t4⟩, tc, tb⟩, ⟨Tq, Tq, Tq, Tq, Tq, Tq, ?_, Tq, Tv⟩, Tv⟩
  rw [<- hTl]
  exact Tq
 clear t1 t2 t4 tc tb
 rintro t S' ⟨hi, ⟨t1, t2, t4⟩, tc, tb⟩
 refine bcd (fun h1 => ?_) (fun h1 => ?_)
 ·have hlt : t < w.G.T.length := by omega
  obtain ⟨ch, hc, hcv⟩ := ztw (m := (w.G.T[t]).toNat) (by have := fm.hg.2.2.2 _ (List.getElem_mem hlt); omega)
  have htS : wo w t = if covB w.G w.B t then 35 else ((ch.toNat : Nat) : Int) := by
   unfold wo
   rw [hcv, List.getD_eq_getElem?_getD (l := w.G.T), List.getElem?_eq_getElem hlt]
   rfl
  have hbh := zva (f := covB w.G w.B) hlt
  refine ⟨t, rfl, za _ (zg hlt) ?_⟩
  refine ADraw.of_sched zd (by rfl) (by rfl) zuu (by rfl) ?_
  refine za (o := S'.obj p4) _ t4 ?_
  refine ⟨(w.G.T[t]).toNat, rfl, za ch hc ?_⟩
  refine ⟨t, rfl, hlt, ?_⟩
  refine ⟨?_, Tv⟩
  refine za _ rfl (xp rfl (x5 (v := .s (.int .u8 ((ch.toNat : Nat) : Int))) rfl rfl rfl rfl ?_))
  refine zp (i := ti5) (v := .s (.int .u8 ((ch.toNat : Nat) : Int))) (b := bb) (o := 0 + t * 1) (l := ul w.G.T.length (y7 w t)) (st2 := S'.setObj bb (.cells (ul w.G.T.length (updN (y7 w t) t ((ch.toNat : Nat) : Int))))) rfl rfl rfl tb (by rw [zcp]; omega) (by rw [show 0 + t * 1 = t by omega, zj3 hlt]) ?_
  refine ⟨Tv, ?_⟩
  have s1 : (S'.setObj bb (.cells (ul w.G.T.length (updN (y7 w t) t ((ch.toNat : Nat) : Int))))).obj p1 = _ := (zc m1).trans t1
  have s2 : (S'.setObj bb (.cells (ul w.G.T.length (updN (y7 w t) t ((ch.toNat : Nat) : Int))))).obj p2 = _ := (zc m2).trans t2
  have s4 : (S'.setObj bb (.cells (ul w.G.T.length (updN (y7 w t) t ((ch.toNat : Nat) : Int))))).obj p4 = _ := (zc (Ne.symm n4b)).trans t4
  have sc : (S'.setObj bb (.cells (ul w.G.T.length (updN (y7 w t) t ((ch.toNat : Nat) : Int))))).obj bc = _ := (zc (Ne.symm nbc)).trans tc
  have sb : (S'.setObj bb (.cells (ul w.G.T.length (updN (y7 w t) t ((ch.toNat : Nat) : Int))))).obj bb = _ := zb _ _ _
  clear t1 t2 t4 tc tb
  generalize S'.setObj bb (.cells (ul w.G.T.length (updN (y7 w t) t ((ch.toNat : Nat) : Int)))) = S5 at *
  refine ⟨t, rfl, hlt, ?_⟩
  refine za (o := S5.obj bc) _ sc ?_
  refine za _ hbh ?_
  refine ze (fun d1 => ?_) (fun d1 => ?_)
  ·rw [if_pos d1] at htS
   refine za (o := S5.obj p4) _ s4 ?_
   refine ⟨t, rfl, hlt, ?_⟩
   refine zp (i := ti5) (v := .s (.int .u8 35)) (b := bb) (o := 0 + t * 1) (l := ul w.G.T.length (updN (y7 w t) t ((ch.toNat : Nat) : Int))) (st2 := S5.setObj bb (.cells (ul w.G.T.length (y7 w (t + 1))))) rfl rfl rfl sb (by rw [zcp]; omega) (by rw [show 0 + t * 1 = t by omega, zj3 hlt, zh4, zbi, htS]) ?_
   refine in64 (by omega) ?_
   exact ⟨t + 1, (show w.G.T.length - (t + 1) < w.G.T.length - t by omega), ⟨hlt, ⟨(zc m1).trans s1, (zc m2).trans s2, (zc (Ne.symm n4b)).trans s4⟩, (zc (Ne.symm nbc)).trans sc, zb _ _ _⟩, ⟨Tq, Tq, Tq, Tq, Tq, Tq, Tq, Tq, Tv⟩, Tv⟩
  ·rw [if_neg (by rw [d1]; decide)] at htS
   refine in64 (by omega) ?_
   exact ⟨t + 1, (show w.G.T.length - (t + 1) < w.G.T.length - t by omega), ⟨hlt, ⟨s1, s2, s4⟩, sc, by rw [zbi, htS]; exact sb⟩, ⟨Tq, Tq, Tq, Tq, Tq, Tq, Tq, Tq, Tv⟩, Tv⟩
 have : t = w.G.T.length := by omega
 subst this
 rw [zmw, <- zfi w] at tb
 clear tc h1 hi nbc
 refine AWp.seq (AWp.seq (AWp.of_vc zd ?_))
 refine za (o := S'.obj p1) _ t1 ?_
 refine zec (lst 10 untC w.U) w.U rfl _ _ (fun pb hfb => ?_)
 have s1 : (S'.setObj pb (.cells [lst 10 untC w.U])).obj p1 = _ := (zc (fne hfb t1)).trans t1
 have s2 : (S'.setObj pb (.cells [lst 10 untC w.U])).obj p2 = _ := (zc (fne hfb t2)).trans t2
 have s4 : (S'.setObj pb (.cells [lst 10 untC w.U])).obj p4 = _ := (zc (fne hfb t4)).trans t4
 have sb : (S'.setObj pb (.cells [lst 10 untC w.U])).obj bb = _ := (zc (fne hfb tb)).trans tb
 have sp : (S'.setObj pb (.cells [lst 10 untC w.U])).obj pb = _ := zb _ _ _
 have k1 := fne hfb t1
 have k2 := fne hfb t2
 have k4 := fne hfb t4
 have kb := fne hfb tb
 clear t1 t2 t4 tb hfb
 generalize S'.setObj pb (.cells [lst 10 untC w.U]) = S6 at *
 refine AWp.block (AWp.rangeFunc rfl rfl Tryz.func50 (by rfl) (by rfl) [(1, ptr p1), (4, ptr p4)] (fun p hp => ?_) (fun q hq => ?_) (by decide) (by decide) (fun l X Y hfl hround => ?_))
 ·simp only [List.mem_cons, List.not_mem_nil, or_false] at hp
  rcases hp with rfl | rfl <;> rfl
 ·simp only [List.mem_cons, List.not_mem_nil, or_false] at hq
  rcases hq with rfl | rfl <;> simp
 have l1 := fne hfl s1
 have l2 := fne hfl s2
 have l4 := fne hfl s4
 have lb := fne hfl sb
 have lp := fne hfl sp
 refine zmd w.U (by have := fm.hU; omega) pb l (fun k S => S.obj l = some X /\ (S.obj p1 = some (.cells (wldC w)) /\ S.obj p2 = some (.cells [.s (.slice none 0 0)]) /\ S.obj p4 = some (.cells [.s (.slice (some ⟨bb, 0, none⟩) w.G.T.length w.G.T.length)])) /\ S.obj pb = some (.cells [lst 10 untC w.U]) /\ S.obj bb = some (.cells (ul w.G.T.length (y4 w k)))) (fun k S h => h.2.2.1) ?_ _ ?_ _ ?_
 ·rintro k S hk ⟨hX, ⟨a1, a2, a4⟩, ap, ab⟩
  refine hround S _ _ hX rfl ?_
  refine AWp.of_vc zd ?_
  refine ⟨rfl, hX, AWp.of_vc zd ?_⟩
  have c1 : (S.setObj l Y).obj p1 = _ := (zc l1).trans a1
  have c2 : (S.setObj l Y).obj p2 = _ := (zc l2).trans a2
  have c4 : (S.setObj l Y).obj p4 = _ := (zc l4).trans a4
  have cp : (S.setObj l Y).obj pb = _ := (zc lp).trans ap
  have cb : (S.setObj l Y).obj bb = _ := (zc lb).trans ab
  have cY : (S.setObj l Y).obj l = _ := zb _ _ _
  clear a1 a2 a4 ap ab hX hround
  generalize S.setObj l Y = S7 at *
  have hdr := zht hk
  refine bceq (fun d1 => ?_) (fun d1 => ?_)
  ·have d1 : w.U[k].inn = 0 := d1
   rw [if_pos d1] at hdr
   have hown := zku hm hk d1
   refine ADraw.of_sched zd (by rfl) (by rfl) zp0 (by rfl) ?_
   refine za (o := S7.obj p4) _ c4 ?_
   refine za (o := S7.obj p1) _ c1 ?_
   refine ⟨zh6 w.G fm.hg w.U[k].pos (zhm hm hk d1) _ _ ⟨⟨za (o := S7.obj p4) _ c4 rfl, rfl, Tv⟩, ?_⟩, Tv⟩
   refine ⟨zkc w.U[k] (fm.hk _ (List.getElem_mem hk)) _ _ ⟨⟨za (o := S7.obj p4) _ c4 rfl, Tv⟩, ?_⟩, Tv⟩
   refine ⟨yl w.G w.U[k].pos, rfl, hown, ?_⟩
   refine ⟨?_, Tv⟩
   refine za _ rfl (xp rfl (x5 (v := .s (.int .u8 (wk w.U[k]))) rfl rfl rfl rfl ?_))
   refine zp (i := ti5) (v := .s (.int .u8 (wk w.U[k]))) (b := bb) (o := 0 + yl w.G w.U[k].pos * 1) (l := ul w.G.T.length (y4 w (k + 1))) (st2 := S7.setObj bb (.cells (ul w.G.T.length (y4 w k)))) rfl rfl rfl cb (by rw [zcp]; omega) (by rw [show 0 + yl w.G w.U[k].pos * 1 = yl w.G w.U[k].pos by omega, zj3 hown, hdr]) ?_
   refine ⟨Tv, ?_⟩
   exact ⟨rfl, (zc (Ne.symm lb)).trans cY, rfl, zb _ _ _, ⟨(zc l1).trans ((zc m1).trans c1), (zc l2).trans ((zc m2).trans c2), (zc l4).trans ((zc (Ne.symm n4b)).trans c4)⟩, (zc lp).trans ((zc (Ne.symm kb)).trans cp), (zc lb).trans (zb _ _ _)⟩
  ·have d1 : ¬ w.U[k].inn = 0 := d1
   rw [if_neg d1] at hdr
   exact ⟨rfl, cY, rfl, zb _ _ _, ⟨(zc l1).trans c1, (zc l2).trans c2, (zc l4).trans c4⟩, (zc lp).trans cp, (zc lb).trans (by rw [hdr]; exact cb)⟩
 ·exact ⟨zb _ _ _, ⟨(zc l1).trans s1, (zc l2).trans s2, (zc l4).trans s4⟩, (zc lp).trans sp, (zc lb).trans sb⟩
 rintro S ⟨hX, ⟨a1, a2, a4⟩, ap, ab⟩
 refine ⟨hX, ?_⟩
 have e1 : (S.delObj l).obj p1 = _ := (kl l1).trans a1
 have e2 : (S.delObj l).obj p2 = _ := (kl l2).trans a2
 have e4 : (S.delObj l).obj p4 = _ := (kl l4).trans a4
 have eb : (S.delObj l).obj bb = _ := (kl lb).trans ab
 clear a1 a2 a4 ap ab hX hround hfl l1 l2 l4 lb lp k1 k2 k4 kb s1 s2 s4 sb sp
 generalize S.delObj l = S8 at *
 clear S
 obtain ⟨⟨hW1, hW2⟩, ⟨hH1, hH2⟩, hTT, _⟩ := fm.hg
 obtain ⟨Wn, hWn⟩ : ∃ n : Nat, w.G.W = (n : Int) := ⟨w.G.W.toNat, by omega⟩
 obtain ⟨Hn, hHn⟩ : ∃ n : Nat, w.G.H = (n : Int) := ⟨w.G.H.toNat, by omega⟩
 have hTn : w.G.T.length = Hn * Wn := by
  rw [hWn, hHn] at hTT
  have : (w.G.T.length : Int) = ((Wn * Hn : Nat) : Int) := by rw [hTT]; simp
  rw [Nat.mul_comm]
  omega
 have hWi : (wldC w).drop 3 = int (Wn : Nat) :: (wldC w).drop 4 := by rw [<- hWn]; rfl
 refine AWp.seq (AWp.seq (AWp.of_vc zd ?_))
 refine za (o := S8.obj p4) _ e4 ?_
 refine za (o := S8.obj p1) _ e1 ?_
 refine zjg (.slice (some ⟨bb, 0, none⟩) w.G.T.length w.G.T.length) ⟨_, _, _, rfl⟩ Wn (by omega) w.G.W hWn _ _ (fun pc pq hfc hfq => ?_)
 have c2 : (S8.setObj pc (.cells [.s (.slice (some ⟨bb, 0, none⟩) w.G.T.length w.G.T.length)])).obj p2 = _ := (zc (fne hfc e2)).trans e2
 have cb : (S8.setObj pc (.cells [.s (.slice (some ⟨bb, 0, none⟩) w.G.T.length w.G.T.length)])).obj bb = _ := (zc (fne hfc eb)).trans eb
 have cc : (S8.setObj pc (.cells [.s (.slice (some ⟨bb, 0, none⟩) w.G.T.length w.G.T.length)])).obj pc = _ := zb _ _ _
 have h2c := fne hfc e2
 have h2q := fne hfq c2
 clear e1 e2 e4 eb hfc
 generalize S8.setObj pc (.cells [.s (.slice (some ⟨bb, 0, none⟩) w.G.T.length w.G.T.length)]) = S9 at *
 have d2 : (S9.setObj pq (.cells [int (Wn : Nat)])).obj p2 = _ := (zc h2q).trans c2
 have db : (S9.setObj pq (.cells [int (Wn : Nat)])).obj bb = _ := (zc (fne hfq cb)).trans cb
 have dc : (S9.setObj pq (.cells [int (Wn : Nat)])).obj pc = _ := (zc (fne hfq cc)).trans cc
 have dq : (S9.setObj pq (.cells [int (Wn : Nat)])).obj pq = _ := zb _ _ _
 clear c2 cb cc hfq
 generalize S9.setObj pq (.cells [int (Wn : Nat)]) = S10 at *
 rw [hTn] at dc
 refine AWp.block (AWp.rangeFunc rfl rfl Tryz.func51 (by rfl) (by rfl) [(2, ptr p2)] (fun p hp => ?_) (fun q hq => ?_) (by decide) (by decide) (fun l X Y hfl hround => ?_))
 ·simp only [List.mem_cons, List.not_mem_nil, or_false] at hp
  rcases hp with rfl
  rfl
 ·simp only [List.mem_cons, List.not_mem_nil, or_false] at hq
  rcases hq with rfl
  simp
 have l2 := fne hfl d2
 have lb := fne hfl db
 have lc := fne hfl dc
 have lq := fne hfl dq
 refine zg4 Wn Hn bb (by omega) (by omega) pc pq l (fun k S => S.obj l = some X /\ (S.obj pc = some (.cells [.s (.slice (some ⟨bb, 0, none⟩) (Hn * Wn) (Hn * Wn))]) /\ S.obj pq = some (.cells [int (Wn : Nat)])) /\ S.obj bb = some (.cells (ul w.G.T.length (y4 w 0))) /\ ∃ v, S.obj p2 = some (.cells [v]) /\ zvg S v (rws jk ((z8 w).take k))) (fun k S h => h.2.1) ?_ _ ?_ _ ?_
 ·rintro k S hk ⟨hX, ⟨ac, aq⟩, ab, v, av, hv⟩
  refine hround S _ _ hX rfl ?_
  refine AWp.of_vc zd ?_
  refine ⟨rfl, hX, AWp.of_vc zd ?_⟩
  have g2 : (S.setObj l Y).obj p2 = _ := (zc l2).trans av
  have gb : (S.setObj l Y).obj bb = _ := (zc lb).trans ab
  have gc : (S.setObj l Y).obj pc = _ := (zc lc).trans ac
  have gq : (S.setObj l Y).obj pq = _ := (zc lq).trans aq
  have gY : (S.setObj l Y).obj l = _ := zb _ _ _
  have gv : zvg (S.setObj l Y) v (rws jk ((z8 w).take k)) := by
   rcases hv with h | ⟨h1, b, h2, h3, h4⟩
   ·exact .inl h
   ·have hbl : b ≠ l := fun e => by subst e; rw [hX] at h3; cases h3
    exact .inr ⟨h1, b, h2, (zc hbl).trans h3, h4⟩
  clear av ab ac aq hX hv hround
  generalize S.setObj l Y = S7 at *
  refine za (o := S7.obj p2) _ g2 ?_
  have hkW : k * Wn + Wn <= w.G.T.length := by
   have := Nat.mul_le_mul_right Wn (show k + 1 <= Hn from hk)
   rw [Nat.add_mul] at this
   omega
  have hrow : ((ul w.G.T.length (y4 w 0)).drop (0 + k * Wn * 1)).take Wn = vl (rowI w k) := by
   rw [zvj hkW]
   unfold rowI
   rw [hWn, Int.toNat_natCast]
  refine zq2 rfl (is := ti24) (ie := ti5) (it := ti9) rfl rfl rfl rfl rfl rfl rfl gb (by unfold rowI; simp [hWn]) hrow ?_
  refine ⟨by decide, ?_⟩
  have hll : (z8 w).length = Hn := by unfold z8; simp [hHn]
  have hkl : k < (z8 w).length := by omega
  have hlk : (z8 w)[k] = zav (rowI w k) := by simp [z8]
  have hrl : (rws jk ((z8 w).take k)).length = k := by rw [zi, List.length_take]; omega
  refine zli (ie := ti9) (rows' := [jk (zav (rowI w k))]) gv rfl rfl rfl (by simp) ⟨?_, ?_⟩ (fun b st2 ho hb ht => ?_)
  ·rw [hrl]; show (k + 1) * 16 <= _; omega
  ·rw [hrl]; show k + 1 <= _; omega
  have hs : rws jk ((z8 w).take k) ++ [jk (zav (rowI w k))] = rws jk ((z8 w).take (k + 1)) := by rw [<- hlk]; exact zp2 hkl
  have nb2 : b ≠ p2 := fun e => by subst e; rw [ho, g2] at hb; cases hb
  have nbl : b ≠ l := fun e => by subst e; rw [ho, gY] at hb; cases hb
  have j2 := (ho p2).trans g2
  have jb := (ho bb).trans gb
  have jc := (ho pc).trans gc
  have jq := (ho pq).trans gq
  have jl := (ho l).trans gY
  rw [hs] at ht ⊢
  clear ho gv g2 gb gc gq gY
  have nb : bb ≠ p2 := Ne.symm m2
  have nc : pc ≠ p2 := Ne.symm h2c
  have nq : pq ≠ p2 := Ne.symm h2q
  refine zp (i := ti31) (v := .lst 1 (rws jk ((z8 w).take (k + 1))) (some b)) (b := p2) (o := 0) (l := [v]) (st2 := st2.setObj p2 (.cells [.lst 1 (rws jk ((z8 w).take (k + 1))) (some b)])) rfl rfl rfl j2 (Nat.le_refl 1) rfl ?_
  refine ⟨rfl, (zc (Ne.symm l2)).trans jl, rfl, zb _ _ _, ⟨(zc lc).trans ((zc nc).trans jc), (zc lq).trans ((zc nq).trans jq)⟩, (zc lb).trans ((zc nb).trans jb), _, (zc l2).trans (zb _ _ _), .inr ⟨?_, b, rfl, (zc nbl).trans ((zc nb2).trans hb), ht⟩⟩
  rw [<- hs]
  simp
 ·exact ⟨zb _ _ _, ⟨(zc lc).trans dc, (zc lq).trans dq⟩, (zc lb).trans db, _, (zc l2).trans d2, .inl ⟨rfl, rfl⟩⟩
 rintro S ⟨hX, ⟨ac, aq⟩, ab, v, av, hv⟩
 refine ⟨hX, ?_⟩
 have f2 : (S.delObj l).obj p2 = _ := (kl l2).trans av
 have hfull : (z8 w).take Hn = z8 w := List.take_of_length_le (by unfold z8; simp; omega)
 rw [hfull] at hv
 refine AWp.of_vc zd ?_
 rcases hv with ⟨_, e⟩ | ⟨_, b, rfl, _, _⟩
 ·have hll : (z8 w).length = Hn := by unfold z8; simp [hHn]
  have := congrArg List.length e
  rw [zi, hll, List.length_nil] at this
  omega
 refine za (o := (S.delObj l).obj p2) _ f2 ?_
 refine zp (i := ti31) (v := .lst 1 (rws jk (z8 w)) (some b)) (b := p2) (o := 0) (l := [.lst 1 (rws jk (z8 w)) (some b)]) (st2 := (S.delObj l).setObj p2 (.cells [.lst 1 (rws jk (z8 w)) (some b)])) rfl rfl rfl f2 (Nat.le_refl 1) rfl ?_
 refine za (o := ((S.delObj l).setObj p2 (.cells [.lst 1 (rws jk (z8 w)) (some b)])).obj p2) _ (zb _ _ _) ?_
 exact ⟨_, _, zu1 (AV.le_tok _ _ _), Store.Has.refl _, .inr ⟨hm, rfl⟩⟩
theorem zfh (w : Wld) (hf : w.fits) (hn : ∀ u ∈ w.U, u.pos.ok) (st : Store) (R : AV -> Store -> Prop) (hno : ¬ mayP w -> R (.tup [nil, int 1]) st) (hok : mayP w -> R (.tup [lst 1 jk (z8 w), int 0]) st) : ACalls Tryz.prog 10 [.agg (wldC w)] st R :=
 zv2 (zqm w hf hn) st R fun r h => by
  rcases h with ⟨h1, rfl⟩ | ⟨h1, rfl⟩
  ·exact hno h1
  ·exact hok h1
theorem zc0 (e : Int) (st : Store) (R : AV -> Store -> Prop) (h : R (int e) st) : ACalls Tryz.prog 11 [int e] st R := by
 refine ACalls.of_body (c := cfg 4) zd Tryz.func11 (by rfl) (by rfl) (by rfl) (by rfl) ?_
 exact ret h
def vW0 : Wld := ⟨0, 1, 1, ⟨1, 1, [0]⟩, [], []⟩
theorem zrb : mayP vW0 := by decide +kernel
theorem zj0 : z8 vW0 = [⟨#[46]⟩] := by decide +kernel
theorem zab (st : Store) (R : AV -> Store -> Prop) (h : R (V.bool true) st) : ACalls Tryz.prog 14 [] st R := by
 refine ACalls.of_body (c := cfg 24) zd Tryz.func14 (by rfl) (by rfl) (by rfl) (by rfl) ?_
 refine ⟨by decide, ?_⟩
 refine ACalls.le (ys := [.agg (wldC vW0)]) ⟨?_, Tv⟩ (zfh vW0 ⟨by unfold Gnd.fits; decide, by decide, by decide⟩ (fun u hu => by cases hu) _ _ (fun hno => absurd zrb hno) (fun _ => ?_))
 ·exact AV.le_aggL ⟨Tt, Tt, Tt, Tt, Tt, Tt, AV.le_nil 6, AV.le_nil 10, Tv⟩
 rw [zj0]
 refine zc0 _ _ _ ?_
 refine ⟨0, rfl, za _ rfl ?_⟩
 exact ret h
end Go.Proofs
