/- Ground of laws of thronglaw24: contracts and plain lemmas; no condition beyond the row's own. -/
import Derived.Test.YthjfdaifoocijaaGreatKG
set_option linter.unusedSimpArgs false
set_option linter.unusedVariables false
namespace Go.V
/-- A value, an object that reads by no cell that others write. -/
def Hv (x : AObj) : Prop := ∀ w T T' b, ObjRel w T x b -> ObjRel w T' x b
theorem cg {l : List AV} (h : ∀ y ∈ l, Bl y) : Hv (.cells l) := by
  rintro w T T' b ⟨c, e, fr, h1, h2, h3, h4⟩
  exact ⟨c, e, fr, h1, h2, h3, fun i x y hx hy => h x (List.mem_of_getElem? hx) _ _ _ _ _ (h4 i x y hx hy)⟩
theorem zrb : Bl .any := fun _ _ _ _ _ _ => .any _
/-- A call that only looks at what is there, in its plain form, and makes something of its own. -/
theorem ACalls.readOwn {P : Program} {f : FuncId} {xs ys : List AV} {g : Store} {Q : AV -> Store -> Prop} {R : AV -> Store -> Prop}
    (hb : ∀ Oth M w vs, StoreOK g Oth M w -> Reads w (fun b o => M b o \/ Oth b o) xs vs -> Reads w (fun b o => (M b o \/ Oth b o) /\ g.obj b = none) ys vs)
    (h : ACalls P f ys Store.empty Q) (hf : ∀ r N, Q r N -> Bl r /\ ∀ b x, N.obj b = some x -> Hv x) (hR : ∀ r N, Q r N -> zi N g -> R r (N.un g)) : ACalls P f xs g R := by
  refine ⟨fun Oth M w vs sto hr => ?_⟩
  let O1 : Nat -> Nat -> Prop := fun b o => (M b o \/ Oth b o) /\ g.obj b = none
  have e1 : (fun (b o : Nat) => False \/ O1 b o) = O1 := by funext b o; simp
  have h1 := h.out O1 (fun _ _ => False) w vs { obj := fun b x hx => (by cases hx), tok := fun b x hx => (by cases hx), mlt := fun _ _ h => h.elim, olt := fun b o h => Or.elim h.1 (sto.mlt b o) (sto.olt b o), dis := fun _ _ _ h => h } (by
    rw [e1]; exact hb Oth M w vs.toList sto hr)
  have key : ∀ v w', yw Store.empty Q O1 (fun _ _ => False) w v w' -> yw g R Oth M w v w' := by
    rintro v w' ⟨r, N, M2, hQ, hv, hs, hc⟩
    obtain ⟨f1, f2⟩ := hf r N hQ
    have hg : Grow w w' := ⟨hc.size, fun b hb => hc.blk b hb fun _ h => h, hc.tape, hc.os, hc.output⟩
    have hnew : ∀ b o, M2 b o -> ¬ b < w.heap.size := fun b o h h1 => hc.sub b o h h1
    have hglt : ∀ b, g.has b -> b < w.heap.size := fun b hb => by
      rcases hb with hb | hb
      · cases hx : g.obj b with
        | none => exact absurd hx hb
        | some x => exact sto.mlt b 0 ((sto.obj b x hx).2 0)
      · cases hx : g.tok b with
        | none => exact absurd hx hb
        | some x =>
          obtain ⟨c, e, fr, h1, _⟩ := sto.tok b x hx
          exact Ce h1
    have hd : zi N g := fun b hb hg => by
      rcases hb with hb | hb
      · cases hx : N.obj b with
        | none => exact absurd hx hb
        | some x => exact hnew b 0 ((hs.obj b x hx).2 0) (hglt b hg)
      · cases hx : N.tok b with
        | none => exact absurd hx hb
        | some x =>
          obtain ⟨c, e, fr, h1, h2, h3, h4⟩ := hs.tok b x hx
          exact hnew b x (h4 x (Nat.le_refl _)) (hglt b hg)
    have hk : Keeps w (fun b o => M b o \/ Oth b o) w' (fun b o => (M2 b o \/ M b o) \/ Oth b o) :=
      { cell := (hg.keeps fun b o => M b o \/ Oth b o).cell, out := fun b o c hc hT hT' => by
          rcases hT' with (h | h) | h
          · exact hnew b o h (Dz hc)
          · exact hT (.inl h)
          · exact hT (.inr h)
        shp := (hg.keeps fun b o => M b o \/ Oth b o).shp }
    refine ⟨r, N.un g, fun b o => M2 b o \/ M b o, hR r N hQ hd, f1 _ _ _ _ _ hv, ?_, ?_⟩
    · refine { obj := fun b x hx => ?_, tok := fun b top hx => ?_, mlt := fun b o hm => ?_, olt := fun b o hm => Nat.lt_of_lt_of_le (sto.olt b o hm) hc.size, dis := fun b o hO hM => ?_ }
      · rcases Mk hx with hx | ⟨_, hx⟩
        · have h5 := sto.obj b x hx
          exact ⟨ObjRel.same h5.1 hk (hg.blk b (hglt b (ks hx))), fun o => .inr (h5.2 o)⟩
        · have h5 := hs.obj b x hx
          exact ⟨f2 b x hx _ _ _ _ h5.1, fun o => .inl (h5.2 o)⟩
      · rcases Il hx with hx | ⟨_, hx⟩
        · obtain ⟨c, e, fr, h1, h2, h3, h4⟩ := sto.tok b top hx
          exact ⟨c, e, fr, by rw [hg.blk b (hglt b (Dr hx))]; exact h1, h2, h3, fun o ho => .inr (h4 o ho)⟩
        · obtain ⟨c, e, fr, h1, h2, h3, h4⟩ := hs.tok b top hx
          exact ⟨c, e, fr, h1, h2, h3, fun o ho => .inl (h4 o ho)⟩
      · rcases hm with h | h
        · exact hs.mlt b o h
        · exact Nat.lt_of_lt_of_le (sto.mlt b o h) hc.size
      · rcases hM with h | h
        · exact hnew b o h (sto.olt b o hO)
        · exact sto.dis b o hO h
    · exact
        { size := hc.size
          keep := fun b o hb hm => hc.keep b o hb fun h => h
          blk := fun b hb hm => hc.blk b hb fun o h => h
          shp := hc.shp
          sub := fun b o hm hb => by
            rcases hm with h | h
            · exact absurd hb (hnew b o h)
            · exact h
          tape := hc.tape
          os := hc.os
          output := hc.output }
  generalize (callFunc f vs).run P w = res at h1
  cases res with
  | ok n w' =>
    cases n with
    | enter f' args => exact Calls.mono h1 fun e w'' ⟨v, he, hv⟩ => ⟨v, he, key _ _ hv⟩
    | value v => exact key _ _ h1
    | _ => exact h1
  | _ => exact h1
theorem S7 {st : Store} {p b : Nat} {x y : AObj} (h : (st.setObj p x).obj b = some y) : (b = p /\ y = x) \/ (b ≠ p /\ st.obj b = some y) := by
  by_cases e : b = p
  · subst e; rw [zd] at h; exact .inl ⟨rfl, (Option.some.inj h).symm⟩
  · rw [zq e] at h; exact .inr ⟨e, h⟩
/-- Rows of an own object, its rest forgotten. -/
theorem RowsQ.flatten {α : Type} {k : Nat} {f : α -> List AV} {N : Store} {v : AV} {l : List α} (hs : ∀ x, ∀ y ∈ f x, ∃ u, y = AV.s u /\ y6 u = true) (h : RowsQ k f N v l) :
    ∃ N2, N.Le N2 /\ RowsQ k f N2 v l /\ Bl v /\ ∀ b x, N2.obj b = some x -> Hv x := by
  have none : v = .s (.slice none 0 0) /\ l = [] \/ (∃ a, M8 a /\ v = .s (.slice a 0 0) /\ l = []) -> ∃ N2, N.Le N2 /\ RowsQ k f N2 v l /\ Bl v /\ ∀ b x, N2.obj b = some x -> Hv x := fun hh => ⟨Store.empty, ⟨fun b y hy => (by cases hy), fun b x hx => (by cases hx)⟩, hh.elim (fun e => .inl (.inl e)) .inr, (by rcases hh with ⟨rfl, _⟩ | ⟨a, _, rfl, _⟩ <;> exact Du _), fun b x hx => (by cases hx)⟩
  rcases h with (h | ⟨b, cap, L, rfl, ho, h1, h2, h3⟩) | h
  · exact none (.inl h)
  · refine ⟨Store.empty.setObj b (.cells ((rws f l).flatten ++ List.replicate L.length .any)), ⟨fun b' y hy => ?_, fun b x hx => (by cases hx)⟩, .inl (.inr ⟨b, cap, List.replicate L.length .any, rfl, zd _ _ _, h1, by rw [List.length_replicate]; exact h2, h3⟩), Du _, fun b' x hx => ?_⟩
    · rcases S7 hy with ⟨rfl, rfl⟩ | ⟨_, hy⟩
      · refine ⟨_, ho, AObj.le_cells (by simp) fun i x y hx hy => ?_⟩
        by_cases hi : i < (rws f l).flatten.length
        · rw [List.getElem?_append_left hi] at hx hy
          rw [hx] at hy; cases hy; exact Tt
        · rw [List.getElem?_append_right (Nat.le_of_not_lt hi)] at hy
          have := (List.mem_replicate.1 (List.mem_of_getElem? hy)).2
          rw [this]; exact AV.le_any _
      · cases hy
    · rcases S7 hx with ⟨rfl, rfl⟩ | ⟨_, hx⟩
      · refine cg fun y hy => ?_
        rcases List.mem_append.1 hy with hy | hy
        · obtain ⟨r, hr, hy⟩ := List.mem_flatten.1 hy
          obtain ⟨a, _, rfl⟩ := List.mem_map.1 hr
          obtain ⟨u, rfl, _⟩ := hs a y hy
          exact Du _
        · rw [(List.mem_replicate.1 hy).2]; exact zrb
      · cases hx
  · exact none (.inr h)
/-- As frozenTo; tokens that stay are kept. -/
theorem ACalls.frozenTok {P : Program} {f : FuncId} {xs : List AV} {st0 : Store} {Q : AV -> Store -> Prop} {R : AV -> Store -> Prop} (h : ACalls P f xs st0 Q)
    (hQ : ∀ r S, Q r S -> ∃ r2 S2, R r2 S2 /\ (∀ b x, S2.obj b = some x -> S.obj b = some x) /\ (∀ b x, S2.tok b = some x -> S.tok b = some x /\ (S.obj b = none \/ S2.obj b ≠ none)) ∧
      ∀ (Oth M : Nat -> Nat -> Prop) (w : World) (v : Value), StoreOK S Oth M w -> VRel w (fun b o => M b o \/ Oth b o) r v -> VRel w (fun b o => (M b o \/ Oth b o) /\ (S.obj b = none \/ S2.obj b ≠ none)) r2 v) :
    ACalls P f xs st0 R := by
  refine ⟨fun Oth M w vs sto hr => ?_⟩
  have h1 := h.out Oth M w vs sto hr
  have key : ∀ v w', yw st0 Q Oth M w v w' -> yw st0 R Oth M w v w' := by
    rintro v w' ⟨r, S, M', hq, hv, hs, hc⟩
    obtain ⟨r2, S2, hr2, hsub, htok, hk⟩ := hQ r S hq
    have hT : ∀ b o, ((M' b o /\ (S.obj b = none \/ S2.obj b ≠ none)) \/ Oth b o) -> (M' b o \/ Oth b o) := fun b o h => h.imp (·.1) id
    refine ⟨r2, S2, fun b o => M' b o /\ (S.obj b = none \/ S2.obj b ≠ none), hr2, (hk Oth M' w' v hs hv).mono fun b o hT => ?_, ?_, ?_⟩
    · rcases hT with ⟨h1, h2⟩ | h1
      · exact ⟨.inl h1, h2⟩
      · refine ⟨.inr h1, ?_⟩
        cases hb : S.obj b with
        | none => exact .inl rfl
        | some y => exact absurd ((hs.obj b y hb).2 o) (hs.dis b o h1)
    · exact { obj := fun b x hx => ⟨(hs.obj b x (hsub b x hx)).1.mono hT, fun o => ⟨(hs.obj b x (hsub b x hx)).2 o, .inr (by rw [hx]; simp)⟩⟩
              tok := fun b x hx => by
                obtain ⟨k1, k2⟩ := htok b x hx
                obtain ⟨c, e, fr, g1, g2, g3, g4⟩ := hs.tok b x k1
                exact ⟨c, e, fr, g1, g2, g3, fun o ho => ⟨g4 o ho, k2⟩⟩
              mlt := fun b o hm => hs.mlt b o hm.1, olt := hs.olt, dis := fun b o ho hm => hs.dis b o ho hm.1 }
    · exact { size := hc.size, keep := hc.keep, blk := hc.blk, shp := hc.shp, sub := fun b o hm hb => hc.sub b o hm.1 hb, tape := hc.tape, os := hc.os, output := hc.output }
  generalize (callFunc f vs).run P w = res at h1
  cases res with
  | ok n w' =>
    cases n with
    | enter g args => exact Calls.mono h1 fun e w'' ⟨v, he, hv⟩ => ⟨v, he, key _ _ hv⟩
    | value v => exact key _ _ h1
    | _ => exact h1
  | _ => exact h1
/-- A call that only looks at what is there, in its plain form, and hands back something of its own: that is plain from then on. -/
theorem ACalls.readFroz {P : Program} {f : FuncId} {xs ys : List AV} {g : Store} {Q : AV -> Store -> Prop} {R : AV -> Store -> Prop}
    (hb : ∀ Oth M w vs, StoreOK g Oth M w -> Reads w (fun b o => M b o \/ Oth b o) xs vs -> Reads w (fun b o => (M b o \/ Oth b o) /\ g.obj b = none) ys vs)
    (h : ACalls P f ys Store.empty Q) (hf : ∀ r N, Q r N -> Bl r /\ ∀ b x, N.obj b = some x -> Hv x)
    (hz : ∀ r N, Q r N -> ∃ r2, R r2 g /\ ∀ (Oth M : Nat -> Nat -> Prop) (w : World) (v : Value), StoreOK N Oth M w -> VRel w (fun b o => M b o \/ Oth b o) r v -> VRel w (fun b o => (M b o \/ Oth b o) /\ N.obj b = none) r2 v) : ACalls P f xs g R := by
  refine ACalls.frozenTok (Q := fun r S => ∃ N, Q r N /\ zi N g /\ S = N.un g) (ACalls.readOwn hb h hf fun r N hq hd => ⟨N, hq, hd, rfl⟩) ?_
  rintro r S ⟨N, hq, hd, rfl⟩
  obtain ⟨r2, hR, hk⟩ := hz r N hq
  refine ⟨r2, g, hR, fun b x hx => zf hx, fun b x hx => ⟨wy hx, ?_⟩, fun Oth M w v sto hv => ?_⟩
  · have hn : ¬ N.has b := fun hh => hd b hh (.inr (by rw [hx]; simp))
    cases hg : g.obj b with
    | some y => exact .inr (by simp)
    | none =>
      left
      show (N.un g).obj b = none
      cases ho : (N.un g).obj b with
      | none => rfl
      | some y =>
        exfalso
        have := (ki hn).1
        simp [Store.un, hg, this] at ho
  · have stoN : StoreOK N Oth M w := sto.weaken ⟨fun b x hx => y3 hd hx, fun b x hx => Gv hd hx⟩
    refine (hk Oth M w v stoN hv).mono fun b o hT => ⟨hT.1, ?_⟩
    rcases hT.2 with h1 | h1
    · cases hN : N.obj b with
      | none => rfl
      | some y => rw [y3 hd hN] at h1; cases h1
    · cases hN : N.obj b with
      | none => rfl
      | some y =>
        cases hg : g.obj b with
        | none => exact absurd hg h1
        | some z => exact absurd (ks hg) (hd b (ks hN))
def jz (v : Vc) : Prop := (-1099511627776 <= v.1 /\ v.1 <= 1099511627776) /\ (-1099511627776 <= v.2 /\ v.2 <= 1099511627776)
theorem C7 {v : Vc} (h : jz v) : vk v := by unfold jz at h; unfold vk; omega
theorem l7 {v : Vc} (h : jz v) : v.ok := by
 unfold jz at h
 exact ⟨⟨by omega, by omega⟩, ⟨by omega, by omega⟩⟩
theorem Ij {p q : Vc} (hp : qj p) (hq : qj q) : jz (y8 q p) := by
 rw [(Rm hp hq).1]
 unfold qj at hp hq
 unfold jz
 dsimp only
 omega
theorem zpt {w : Wld} {u : Unt} (hu : qj u.pos) (h : ∀ x ∈ w.U, x.inn = 0 -> qj x.pos) (hl : w.U.length <= 4096) : jz (F4 w u) := by
 have key : ∀ (l : List Unt) (v : Vc) (B : Nat), (∀ x ∈ l, x.inn = 0 -> qj x.pos) -> B + l.length <= 4096 -> (v.1.natAbs <= B * 16777216 /\ v.2.natAbs <= B * 16777216) ->
   jz (l.foldl (fun v x => if x.inn = 0 /\ x.id ≠ u.id then qi v (kg u.pos (zm u.kind + zm x.kind + 16384) x.pos) else v) v) := by
  intro l
  induction l with
  | nil =>
   intro v B _ hB hv
   unfold jz
   simp only [List.length_nil] at hB
   simp only [List.foldl_nil]
   omega
  | cons x l ih =>
   intro v B hx hB hv
   simp only [List.length_cons] at hB
   rw [List.foldl_cons]
   refine ih _ (B + 1) (fun y hy => hx y (List.mem_cons_of_mem _ hy)) (by omega) ?_
   split
   ·rename_i hc
    have r1 := Hg u.kind
    have r2 := Hg x.kind
    have := Wb hu (hx x List.mem_cons_self hc.1) (r := zm u.kind + zm x.kind + 16384) (by omega)
    generalize kg u.pos (zm u.kind + zm x.kind + 16384) x.pos = z at *
    have e : qi v z = (v.1 + z.1, v.2 + z.2) := by
     unfold qi
     rw [O9 (by omega) (by omega), O9 (by omega) (by omega)]
    rw [e]
    dsimp only
    omega
   ·exact ⟨Nat.le_trans hv.1 (Nat.mul_le_mul_right _ (Nat.le_succ B)), Nat.le_trans hv.2 (Nat.mul_le_mul_right _ (Nat.le_succ B))⟩
 unfold F4
 refine key w.U (0, 0) 0 h (by omega) ⟨?_, ?_⟩
 ·show (0 : Int).natAbs <= _; simp
 ·show (0 : Int).natAbs <= _; simp
theorem cz : ∀ {a b : List Unt}, (a.map (·.id)).Pairwise (· < ·) -> (b.map (·.id)).Pairwise (· < ·) -> (∀ u, u ∈ a ↔ u ∈ b) -> a = b
 | [], [], _, _, _ => rfl
 | [], y :: b, _, _, h => absurd ((h y).2 List.mem_cons_self) (by simp)
 | x :: a, [], _, _, h => absurd ((h x).1 List.mem_cons_self) (by simp)
 | x :: a, y :: b, ha, hb, h => by
  rw [List.map_cons, List.pairwise_cons] at ha hb
  have hx := (h x).1 List.mem_cons_self
  have hy := (h y).2 List.mem_cons_self
  have e : x = y := by
   rcases List.mem_cons.1 hx with e | hx
   ·exact e
   ·rcases List.mem_cons.1 hy with e | hy
    ·exact e.symm
    ·have h1 := hb.1 _ (List.mem_map.2 ⟨x, hx, rfl⟩)
     have h2 := ha.1 _ (List.mem_map.2 ⟨y, hy, rfl⟩)
     omega
  subst e
  refine congrArg _ (cz ha.2 hb.2 fun u => ⟨fun hu => ?_, fun hu => ?_⟩)
  ·rcases List.mem_cons.1 ((h u).1 (List.mem_cons_of_mem _ hu)) with e | e
   ·have := ha.1 _ (List.mem_map.2 ⟨u, hu, rfl⟩)
    rw [e] at this
    omega
   ·exact e
  ·rcases List.mem_cons.1 ((h u).2 (List.mem_cons_of_mem _ hu)) with e | e
   ·have := hb.1 _ (List.mem_map.2 ⟨u, hu, rfl⟩)
    rw [e] at this
    omega
   ·exact e
/-- Ways that are numbers as they count. -/
def nV (v : Vc) : Prop := (-9223372036854775807 <= v.1 /\ v.1 <= 9223372036854775807) /\ (-9223372036854775807 <= v.2 /\ v.2 <= 9223372036854775807)
theorem N7 (a b : Vc) : nV (qi a b) := ⟨Pa _ _, Pa _ _⟩
theorem Fs {v : Vc} (h : nV v) : v.ok := by
 unfold nV at h
 exact ⟨⟨by omega, by omega⟩, ⟨by omega, by omega⟩⟩
theorem cx {a : Int} (h : -9223372036854775807 <= a /\ a <= 9223372036854775807) : yk a 0 = a := by
 unfold yk
 rw [vq (by omega), vq (by omega)]
 unfold xa
 split
 ·omega
 ·split <;> omega
theorem iz {v : Vc} (h : nV v) : qi v (0, 0) = v := by
 unfold qi
 rw [cx h.1, cx h.2]
/-- What one adds. -/
def jd (u : Unt) (v : Vc) (x : Unt) : Vc := if x.id ≠ u.id then qi v (kg u.pos (zm u.kind + zm x.kind + 16384) x.pos) else v
theorem Wu {u x : Unt} {v : Vc} (h : nV v) : nV (jd u v x) := by
 unfold jd
 split
 ·exact N7 _ _
 ·exact h
theorem Wt {u : Unt} : ∀ (l : List Unt) {v : Vc}, nV v -> nV (l.foldl (jd u) v)
 | [], _, h => h
 | x :: l, _, h => Wt l (Wu h)
theorem zm3 {p q : Vc} {r : Int} (h : near p q r = false) : kg p r q = (0, 0) := by
 unfold kg
 rw [h]
 simp
theorem Kq (u : Unt) (r : Int) (hr : ∀ k, zm u.kind + zm k + 16384 <= r) : ∀ (l : List Unt) (v : Vc), nV v ->
  l.foldl (fun v x => if x.inn = 0 /\ x.id ≠ u.id then qi v (kg u.pos (zm u.kind + zm x.kind + 16384) x.pos) else v) v = (l.filter fun x => decide (x.inn = 0) && near u.pos x.pos r).foldl (jd u) v
 | [], v, _ => rfl
 | x :: l, v, h => by
  rw [List.foldl_cons, List.filter_cons]
  by_cases h0 : x.inn = 0
  ·cases hn : near u.pos x.pos r with
   | true =>
    simp only [h0, decide_true, Bool.and_self, if_true, List.foldl_cons, true_and]
    exact Kq u r hr l _ (Wu h)
   | false =>
    have hf : near u.pos x.pos (zm u.kind + zm x.kind + 16384) = false := by
     cases hc : near u.pos x.pos (zm u.kind + zm x.kind + 16384) with
     | false => rfl
     | true => rw [Wr (hr x.kind) hc] at hn; cases hn
    simp only [h0, decide_true, Bool.and_false, Bool.false_eq_true, if_false, true_and]
    rw [zm3 hf, iz h, ite_self]
    exact Kq u r hr l _ h
  ·simp only [h0, decide_false, Bool.false_and, Bool.false_eq_true, if_false, false_and]
   exact Kq u r hr l _ h
theorem zps {w : Wld} {u : Unt} (hr : yf w.U) {us : List Unt} (hn : Be w u.pos (zm u.kind + 16384 + 81920) us) (hs : (us.map (·.id)).Pairwise (· < ·)) : F4 w u = us.foldl (jd u) (0, 0) := by
 unfold F4
 rw [Kq u (zm u.kind + 16384 + 81920) (fun k => by have := (vy k).2; omega) w.U (0, 0) ⟨⟨by decide, by decide⟩, ⟨by decide, by decide⟩⟩]
 congr 1
 refine cz ?_ hs fun x => ?_
 ·have : (w.U.map (·.id)).Pairwise (· < ·) := by
   rw [List.pairwise_iff_getElem]
   intro i j hi hj hij
   rw [List.length_map] at hi hj
   simp only [List.getElem_map]
   exact vm hr hij hj
  exact this.sublist (List.filter_sublist.map _)
 ·rw [List.mem_filter, hn x, Bool.and_eq_true, decide_eq_true_iff]
  constructor
  ·rintro ⟨h1, h2, h3⟩; exact ⟨⟨h1, h2⟩, h3⟩
  ·rintro ⟨⟨h1, h2⟩, h3⟩; exact ⟨h1, h2, h3⟩
/-- A way's halves. -/
theorem Ow {v : Vc} (h : nV v) (k : Nat) : nV (qz v k) := by
 obtain ⟨h1, h2⟩ := h
 have e1 := bo v.1 k
 have e2 := bo v.2 k
 unfold nV qz
 dsimp only
 omega
theorem Md {v : Vc} (h : v.ok) : nV (ym v) := by
 obtain ⟨h1, h2⟩ := h
 have e1 := xz h1
 have e2 := xz h2
 unfold nV ym
 dsimp only
 omega
/-- One more try. -/
theorem R6 {w : Wld} {u : Unt} {v : Vc} {n k : Nat} (h0 : qz v k ≠ (0, 0)) (hc : ¬ y5 w u.id u.kind (qi u.pos (qz v k))) : yy w u v (n + 1) k = yy w u v n (k + 1) := by
 show (if _ then _ else if _ then _ else _) = _
 rw [if_neg h0, if_neg hc]
theorem R4 {w : Wld} {u : Unt} {v : Vc} {n k : Nat} (h0 : qz v k = (0, 0)) : yy w u v (n + 1) k = none := by
 show (if _ then _ else if _ then _ else _) = _
 rw [if_pos h0]
theorem R5 {w : Wld} {u : Unt} {v : Vc} {n k : Nat} (h0 : qz v k ≠ (0, 0)) (hc : y5 w u.id u.kind (qi u.pos (qz v k))) : yy w u v (n + 1) k = some (k, qi u.pos (qz v k)) := by
 show (if _ then _ else if _ then _ else _) = _
 rw [if_neg h0, if_pos hc]
theorem M9 {k : Nat} (hk : k < 5) : IntKind.i64.wrap (1 * 2 ^ (min ((k : Int)).toNat IntKind.i64.bits)) = ((2 ^ k : Nat) : Int) := by
 have : k = 0 \/ k = 1 \/ k = 2 \/ k = 3 \/ k = 4 := by omega
 rcases this with rfl | rfl | rfl | rfl | rfl <;> decide
/-- The walk has come to 'k' and nothing was taken. -/
def Cz (w : Wld) (u : Unt) (v : Vc) (k : Nat) : Prop := yy w u v 5 0 = yy w u v (5 - k) k
theorem R9 {w : Wld} {u : Unt} {v : Vc} {k : Nat} (h : Cz w u v k) (h2 : k < 5 -> qz v k = (0, 0)) (hk : k <= 5) : yy w u v 5 0 = none := by
 rw [h]
 by_cases h5 : k < 5
 ·rw [show 5 - k = (4 - k) + 1 by omega]
  unfold yy
  rw [if_pos (h2 h5)]
 ·rw [show 5 - k = 0 by omega]
  rfl
theorem lx {w : Wld} {u : Unt} {v : Vc} {k : Nat} (h : Cz w u v k) (hk : k < 5) (h1 : qz v k ≠ (0, 0)) (h2 : y5 w u.id u.kind (qi u.pos (qz v k))) : yy w u v 5 0 = some (k, qi u.pos (qz v k)) := by
 rw [h, show 5 - k = (4 - k) + 1 by omega]
 unfold yy
 rw [if_neg h1, if_pos h2]
theorem ly {w : Wld} {u : Unt} {v : Vc} {k : Nat} (h : Cz w u v k) (hk : k < 5) (h1 : qz v k ≠ (0, 0)) (h2 : ¬ y5 w u.id u.kind (qi u.pos (qz v k))) : Cz w u v (k + 1) := by
 unfold Cz
 rw [h, show 5 - k = (5 - (k + 1)) + 1 by omega]
 conv => lhs; unfold yy
 rw [if_neg h1, if_neg h2]
theorem R8 {w : Wld} {u : Unt} {v : Vc} (h : yy w u (ym v) 5 0 = none) : qt w u v = 5 /\ yq w u v = w := by
 unfold qt yq
 rw [h]
 exact ⟨rfl, rfl⟩
theorem R7 {w : Wld} {u : Unt} {v : Vc} {k : Nat} {p : Vc} (h : yy w u (ym v) 5 0 = some (k, p)) : qt w u v = k /\ yq w u v = ya w { u with pos := p } := by
 unfold qt yq
 rw [h]
 exact ⟨rfl, rfl⟩
end Go.V
