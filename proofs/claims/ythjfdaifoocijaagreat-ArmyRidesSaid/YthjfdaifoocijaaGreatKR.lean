/- Ground of laws of thronglaw21: contracts and plain lemmas; no condition beyond the row's own. -/
import Derived.Test.YthjfdaifoocijaaGreatKQ
import Derived.Test.YthjfdaifoocijaaGreatKP
set_option linter.unusedSimpArgs false
set_option linter.unusedVariables false
namespace Go.Proofs
open Go Go.V
set_option maxRecDepth 4000
theorem zdj (g : Gnd) (hg : zt g) (t : Nat) (ht : t < g.T.length) (tI : Int) (htI : tI = (t : Int)) (st : Store) (R : AV -> Store -> Prop) (h : R (.agg (zn (va g t))) st) : ACalls Tryz.prog 7 [.agg (zz g), int tI] st R := by
 subst htI
 have ha := qt hg
 have htb := vj hg (t := t) (by omega)
 have hq := Cf (t := t) hg.1.1
 have hq2 := Cg (t := t) hg.1.1
 have hg1 := hg.1
 have hg2 := hg.2.1
 unfold va tx ty at h
 rw [<- hq, <- hq2] at h
 refine ACalls.of_body (c := cfg 18) zb Tryz.func7 (by rfl) (by rfl) (by rfl) (by rfl) ?_
 refine ADraw.of_sched zb (by rfl) (by rfl) pp (by rfl) ?_
 refine ⟨by omega, ?_⟩
 refine zd (by omega) ?_
 refine zd (by omega) ?_
 refine ⟨by omega, ?_⟩
 refine zd (by omega) ?_
 refine zd (by omega) ?_
 refine zd (by omega) ?_
 refine ⟨⟨(by repeat (first | exact Tv | refine ⟨rfl, ?_⟩ | refine ⟨optR (optR (optR (za _ (zc _ _ _) rfl))), ?_⟩)), ?_⟩, Tv⟩
 exact ret h
theorem Bc (n : Nat) (h : n < 100) : (rdW (rdU n)).fits := ⟨show rdG.T.length <= 1000000000000 by decide, show 0 <= 1000000000000 by decide, by show (rdU n).length <= _; rw [I5]; omega⟩
/-- The world's box. -/
def rdB (l : List Unt) : List AV := [int 0, int 2, int 20, int 6, int 2, xl rdG.T, nil, lst 10 zi l]
theorem Bd (l : List Unt) : AV.le (.agg (rdB l)) (.agg (zp (rdW l))) :=
 AV.le_aggL ⟨Tt, Tt, Tt, Tt, Tt, Tt, AV.le_nil 6, Tt, Tv⟩
theorem F8 (t : Nat) (ht : t < 12) (tI : Int) (p : Vc) (st : Store) (htI : tI = (t : Int)) (hp : va rdG t = p) (R : AV -> Store -> Prop) (h : R (.agg (zn p)) st) : ACalls Tryz.prog 7 [.agg [int 6, int 2, xl rdG.T], int tI] st R := by
 subst hp
 exact zdj rdG th t ht tI htI st R h
theorem zc3 (l : List Unt) (hl : l.length <= 1000000) (R : AV -> Store -> Prop) (h : ∀ v N, RowsO 10 zi N v l -> (∀ i, N.tok i = none) -> R v N) : ACalls Tryz.prog 12 [lst 10 zi l] Store.empty R := by
 refine ACalls.of_body (c := cfg 19) zb Tryz.func12 (by rfl) (by rfl) (by rfl) (by rfl) ?_
 refine AWp.loop (σ := Nat × AV × Store) ⟨fun s => [(0, .av (lst 10 zi l)), (3, .av s.2.1), (4, .av (int s.1))], fun _ => [], fun s st' => s.1 <= l.length /\ st' = s.2.2 /\ RowsO 10 zi s.2.2 s.2.1 (l.take s.1) /\ ∀ i, s.2.2.tok i = none, fun s => l.length - s.1⟩ zb ?_ ?_
 ·exact ⟨(0, _, Store.empty), Tv, ⟨Nat.zero_le _, rfl, .inl ⟨rfl, rfl⟩, fun _ => rfl⟩, ⟨Tq, Tq, Tq, Tv⟩, Tv⟩
 ·rintro ⟨i, v, N⟩ st' ⟨hi, rfl, ha, hnt⟩
  dsimp only at hi ha hnt ⊢
  refine zh (fun h1 => ?_) (fun h1 => ?_)
  ·have hlt : i < l.length := qk h1
   refine ⟨i, rfl, za _ (zk hlt) ?_⟩
   refine ⟨by decide, ?_⟩
   refine Hl (ie := ti37) rfl (fun _ => rfl) (by decide) ha l[i] rfl (by rw [List.length_take]; omega) (fun b cap L q1 q2 q3 q4 => ?_)
   refine ⟨⟨by omega, by omega⟩, ?_⟩
   refine ⟨(i + 1, _, _), ?_, ⟨hlt, rfl, ?_, hnt⟩, ⟨Tq, Tq, Tq, Tv⟩, Tv⟩
   ·show l.length - (i + 1) < l.length - i
    omega
   ·dsimp only
    rw [List.take_succ_eq_append_getElem hlt]
    exact .inr ⟨b, cap, L, rfl, zc _ _ _, q2, q3, q4⟩
  ·have hge : i = l.length := q9 h1 hi
   subst hge
   rw [List.take_length] at ha
   exact ret (h _ _ ha hnt)
theorem zc4 (l : List Unt) (hl : l.length <= 1000000) (st : Store) (R : AV -> Store -> Prop) (h : ∀ v N, RowsO 10 zi N v l -> (∀ i, N.tok i = none) -> zv N st -> R v (N.un st)) : ACalls Tryz.prog 12 [lst 10 zi l] st R := by
 rw [<- Ds st]
 exact ACalls.frame (Lk st) (zc3 l hl (fun v N => RowsO 10 zi N v l /\ ∀ i, N.tok i = none) fun v N hv ht => ⟨hv, ht⟩) fun v N hv hd => h v N hv.1 hv.2 hd
theorem s9 {l : List Unt} : ∀ row ∈ rws zi l, ∀ y ∈ row, ∃ v, y = AV.s v /\ yk v = true := by
 intro row hr y hy
 obtain ⟨x, _, rfl⟩ := List.mem_map.1 hr
 exact H1 x y hy
theorem ta {l : List Unt} : ∀ row ∈ rws zi l, row.length = 10 := by
 intro row hr
 obtain ⟨x, _, rfl⟩ := List.mem_map.1 hr
 rfl
/-- A block that is made in a call has no token, and is none of those that were there. -/
theorem tc {N S : Store} {v : AV} {l : List Unt} {b : Nat} (hv : RowsO 10 zi N v l) (ht : ∀ i, N.tok i = none) (hd : zv N S) (q : Fresh (N.un S) b \/ ∃ c0, v = .s (.slice (some ⟨b, 0, none⟩) l.length c0)) : (N.un S).tok b = none /\ ¬ S.has b := by
 rcases q with q | ⟨c0, rfl⟩
 ·have := fresh_iff.1 q
  exact ⟨(wo this).2, fun hh => this (un_has.2 (.inr hh))⟩
 ·rcases hv with ⟨e, _⟩ | ⟨b2, cap, L, e, ho, _⟩
  ·cases e
  ·cases e
   have h2 := hd _ (js ho)
   refine ⟨?_, h2⟩
   cases hx : (N.un S).tok b with
   | none => rfl
   | some x =>
    rcases Fl hx with h | ⟨_, h⟩
    ·rw [(wo h2).2] at h; cases h
    ·rw [ht] at h; cases h
theorem te {N S st : Store} {b : Nat} {x : AObj} (hS : S.Has st) (h2 : ¬ S.has b) : (((N.un S).setObj b x).delObj b).Has st := by
 refine ⟨fun b3 y hy => ?_, fun b3 y hy => ?_⟩
 ·have h3 := hS.obj b3 y hy
  have hne : b3 ≠ b := fun e => h2 (e ▸ js h3)
  show (bif Nat.beq b3 b then none else ((N.un S).setObj b x).obj b3) = some y
  rw [zj hne, show Nat.beq b3 b = false from ya hne]
  exact zf h3
 ·exact vi (hS.tok b3 y hy)
def Gb (mask : Nat) : List Nat := [0, 1, 2, 3].filter fun i => Nat.beq (mask / 2 ^ i % 2) 1
def Ga (k mask : Nat) : Nat -> Nat
 | 0 => 16 * k + mask
 | m => 79 + m
def jc (s : Nat) : Nat × Nat × Nat := bif Nat.blt s 80 then (s / 16, s % 16, 0) else (4, 15, s - 79)
def I6 (k mask m : Nat) : Sch2 :=
 let a : Sch2 := [0, 1, 2, 3].foldr (fun i r => bif Nat.beq (mask / 2 ^ i % 2) 1 then r else .e (8 + i) [0, 2, 4, 6] (Ga k (mask + 2 ^ i) m) r) .stop
 let b : Sch2 := bif Nat.blt k 4 then .e (1 + 2 * k) [0, 2, 4, 6] (Ga (k + 1) mask m) a else a
 bif Nat.beq k 4 && Nat.blt m 4 && Nat.beq mask 15 then .e (12 + m) [0, 2, 4, 6] (Ga 4 mask (m + 1)) b else b
abbrev RdY := Nat -> Nat × Nat × List AV
def j4 (y : RdY) (i : Nat) : AV := .s (.slice (some ⟨(y i).1, 0, none⟩) 2 (y i).2.1)
def tg (s : Nat) : List (Nat × LV) := bif Nat.beq s 0 then [] else [(68, .av (.agg (rdB (rdU 1)))), (70, .av (.agg (rdB (rdU 1)))), (72, .av (.agg (rdB (rdU 1)))), (74, .av (.agg (rdB (rdU 1))))]
def rdI (st0 : Store) (k : Nat) (y : RdY) (st : Store) : Prop :=
 st.Has st0 /\ ∀ i, i < k -> (st.obj (y i).1 = some (.cells ((rws zi (rdU 1)).flatten ++ (y i).2.2)) /\ 2 <= (y i).2.1 /\ (y i).2.1 * 10 <= 20 + (y i).2.2.length /\ (y i).2.1 <= 9223372036854775807) /\ ¬ st0.has (y i).1 /\ ∀ j, j < i -> (y j).1 ≠ (y i).1
def rdX (a : Ask21) (st0 : Store) (s : Nat) : Stt RdY where
 L := bif Nat.beq s 0 then [] else [0, 2, 4, 6] ++ ((List.range (jc s).1).map (fun i => 1 + 2 * i) ++ ((Gb (jc s).2.1).map (fun i => 8 + i) ++ (List.range (jc s).2.2).map fun i => 12 + i))
 S := bif Nat.beq s 0 then .v 0 (.v 2 (.v 4 (.v 6 (I6 0 0 0)))) else bif Nat.beq s 83 then .done else I6 (jc s).1 (jc s).2.1 (jc s).2.2
 t := fun y => [(1, .bx 1 0), (3, .bx 3 0), (4, .bx 4 0)] ++ (tg s ++ ((List.range (jc s).1).map (fun i => (69 + 2 * i, .av (.agg (xh (rdW (rdU 1)) (j4 y i))))) ++ (Gb (jc s).2.1).map fun i => (9 + i, .bx (9 + i) 0)))
 bx := fun y => [(1, kk a), (3, [int 6, int 2, xl rdG.T]), (4, rdB (rdU 1))] ++ (Gb (jc s).2.1).map fun i => (9 + i, bif Nat.blt i (jc s).2.2 then xh (rdW (rdU 1)) (j4 y i) else [int 0, int 0, int 0, int 0, int 0, nil, nil, nil])
 inv := fun y st => rdI st0 (jc s).1 y st
theorem Hm {p : Nat -> Prop} {n : Nat} (h : ∀ s, s < n -> p s) (hn : p n) : ∀ s, s < n + 1 -> p s := fun s hs => by
 rcases Nat.lt_succ_iff_lt_or_eq.1 hs with g | rfl
 ·exact h s g
 ·exact hn
def vm (y : RdY) (k : Nat) (x : Nat × Nat × List AV) : RdY := fun i => bif Nat.beq i k then x else y i
theorem tf {st0 st N : Store} {k : Nat} {y : RdY} (h : rdI st0 k y st) {b cap : Nat} {L : List AV} (hd : zv N st) (ho : N.obj b = some (.cells ((rws zi (rdU 1)).flatten ++ L))) (h1 : 2 <= cap) (h2 : cap * 10 <= 20 + L.length) (h3 : cap <= 9223372036854775807) : rdI st0 (k + 1) (vm y k (b, cap, L)) (N.un st) := by
 have hb := hd b (js ho)
 refine ⟨⟨fun q z hz => zf (h.1.obj q z hz), fun q z hz => vi (h.1.tok q z hz)⟩, fun i hi => ?_⟩
 by_cases hik : i = k
 ·subst hik
  have e : vm y i (b, cap, L) i = (b, cap, L) := by
   show (bif Nat.beq i i then _ else _) = _
   rw [Nat.beq_refl]; rfl
  rw [e]
  refine ⟨⟨y5 hd ho, h1, h2, h3⟩, fun hh => ?_, fun j hj => ?_⟩
  ·rcases hh with hh | hh
   ·cases hx : st0.obj b with
    | none => exact hh hx
    | some z => exact hb (js (h.1.obj b z hx))
   ·cases hx : st0.tok b with
    | none => exact hh hx
    | some z => exact hb (.inr (by rw [h.1.tok b z hx]; simp))
  ·have e2 : vm y i (b, cap, L) j = y j := by
    show (bif Nat.beq j i then _ else _) = _
    rw [ya (Nat.ne_of_lt hj)]; rfl
   rw [e2]
   intro e3
   have e4 : (y j).1 = b := e3
   exact hb (e4 ▸ js (h.2 j hj).1.1)
 ·have e : ∀ j, j <= i -> vm y k (b, cap, L) j = y j := fun j hj => by
   have : j ≠ k := by omega
   show (bif Nat.beq j k then _ else _) = _
   rw [ya this]; rfl
  rw [e i (Nat.le_refl i)]
  obtain ⟨⟨g1, g2⟩, g3, g4⟩ := h.2 i (by omega)
  exact ⟨⟨zf g1, g2⟩, g3, fun j hj => by rw [e j (Nat.le_of_lt hj)]; exact g4 j hj⟩
theorem td {N : Store} {v : AV} {ns : List Int} (h : Ints N v ns) : ∃ oa cap, v = .s (.slice oa ns.length cap) := by
 rcases h with ⟨rfl, rfl⟩ | ⟨b, cap, L, rfl, _⟩
 ·exact ⟨_, _, rfl⟩
 ·exact ⟨_, _, rfl⟩
theorem s8 (n : Nat) (hn : n < 7) (st : Store) (R : AV -> Store -> Prop) (h : ∀ oa m cap S, (n <= 4 -> m = n) -> S.Has st -> R (.tup [.s (.slice oa m cap), int (if n <= 4 then 0 else 1)]) S) : ACalls Tryz.prog 10 [.agg (zp (rdW (rdU n))), int 1] st R := by
 have hmz := F9 n hn
 obtain ⟨hil, hfs⟩ := I4 n hn
 refine zd9 (rdW (rdU n)) (Bc n (by omega)) (Cq n) 1 _ _ (fun hm => ?_) (fun hm hf => ?_) (fun hm i hf v N hv hd => ?_)
 ·have := h none 0 0 st (fun e => absurd (hmz.2 e) hm) (Store.Has.refl _)
  rwa [if_neg fun e => hm (hmz.2 e)] at this
 ·rw [show V.findU (rdU n) 1 = none from hf] at hfs
  cases hfs
 ·obtain ⟨oa, cap, rfl⟩ := td hv
  have := h oa (zq (rdU n) 1).length cap (N.un st) (fun _ => hil) ⟨fun _ _ hx => zf hx, fun _ _ hx => vi hx⟩
  rwa [if_pos (hmz.1 hm)] at this
set_option maxHeartbeats 2000000 in
set_option maxRecDepth 20000 in
theorem zd8 (a : Ask21) (st : Store) (R : AV -> Store -> Prop) (h : R (V.bool true) st) : ACalls Tryz.prog 3 [.agg (kk a)] st R := by
 refine ACalls.of_awp (c := cfg 135) zb Tryz.func3 (by rfl) (by rfl) (by rfl) (by rfl) ?_
 refine AWp.seq (AWp.of_vc zb ?_)
 refine AWp.seq (AWp.of_vc zb ?_)
 refine D9 rfl (it := ti22) (ie := ti5) rfl rfl rfl rfl rfl (n := 12) (by decide) (by decide) (fun b hf => ?_)
 refine AWp.freezeBx (d := 3) (j := 2) (b := b) (n := 12) (cap := 12) (k := 1) (rows := rws u8C rdG.T) (pad := []) rfl rfl (zc _ _ _) hf.2 rfl (Nat.le_refl _) ?_ ?_ ?_
 ·intro row hr
  obtain ⟨x, _, rfl⟩ := List.mem_map.1 hr
  rfl
 ·intro row hr y hy
  obtain ⟨x, _, rfl⟩ := List.mem_map.1 hr
  simp [u8C, u8] at hy
  exact ⟨_, hy, rfl⟩
 rw [G7 hf.1]
 refine AWp.meetA (σ := Unit) ⟨fun _ => [(1, .bx 1 0), (3, .bx 3 0), (4, .bx 4 0)], fun _ => [(1, kk a), (3, [int 6, int 2, xl rdG.T]), (4, rdB (rdU 0))], fun _ st' => st' = st⟩ ?_ ?_
 ·refine AWp.of_vc zb ?_
  refine ADraw.of_sched zb (by rfl) (by rfl) px (by rfl) ?_
  refine ⟨F8 0 (by decide) _ _ _ rfl rd_cen.1 _ ⟨(by repeat (first | exact Tv | refine ⟨rfl, ?_⟩ | refine ⟨optR (optR (optR (za _ (zc _ _ _) rfl))), ?_⟩)), ?_⟩, ?_⟩
  ·refine ⟨by decide, ?_⟩
   refine ⟨⟨(by repeat (first | exact Tv | refine ⟨rfl, ?_⟩ | refine ⟨⟨by decide, rfl⟩, ?_⟩)), ?_⟩, Tv⟩
   refine ⟨⟨Tv, ?_⟩, Tv⟩
   exact ⟨(), rfl, ⟨Tq, Tq, Tq, Tv⟩, ⟨rfl, rfl, rfl, Tv⟩⟩
  ·refine ⟨⟨(by repeat (first | exact Tv | refine ⟨rfl, ?_⟩ | refine ⟨optR (optR (optR (za _ (zc _ _ _) rfl))), ?_⟩)), ?_⟩, Tv⟩
   refine ⟨F8 0 (by decide) _ _ _ rfl rd_cen.1 _ ⟨(by repeat (first | exact Tv | refine ⟨rfl, ?_⟩ | refine ⟨optR (optR (optR (za _ (zc _ _ _) rfl))), ?_⟩)), ?_⟩, Tv⟩
   refine ⟨by decide, ?_⟩
   refine ⟨⟨Tv, ?_⟩, Tv⟩
   exact ⟨(), rfl, ⟨Tq, Tq, Tq, Tv⟩, ⟨rfl, rfl, rfl, Tv⟩⟩
 rintro _ st' rfl
 refine AWp.seq ?_
 refine AWp.seq (AWp.of_vc zb ?_)
 refine AWp.block ?_
 refine AWp.loopA (σ := Nat) ⟨fun n => [(1, .bx 1 0), (3, .bx 3 0), (4, .bx 4 0), (5, .av (int (n : Nat)))], fun n => [(1, kk a), (3, [int 6, int 2, xl rdG.T]), (4, rdB (rdU n))], fun n S => n <= 7 /\ S.Has st', fun n => 7 - n⟩ ?_ ?_
 ·exact ⟨0, Tv, ⟨by decide, Store.Has.refl _⟩, ⟨Tq, Tq, Tq, Tq, Tv⟩, ⟨rfl, rfl, rfl, Tv⟩⟩
 rintro n S ⟨hn, hS⟩
 refine AWp.seq (AWp.of_vc zb ?_)
 refine bcd (fun c1 => ?_) (fun c1 => ?_)
 ·have hn7 : n < 7 := by omega
  have hc : n = 0 \/ n = 1 \/ n = 2 \/ n = 3 \/ n = 4 \/ n = 5 \/ n = 6 := by omega
  have hmz := F9 n hn7
  obtain ⟨hil, hfs⟩ := I4 n hn7
  have hU := I5 n
  refine AWp.seq (AWp.block (AWp.seq (AWp.of_vc zb ?_)))
  refine ACalls.le (ys := [.agg (zp (rdW (rdU n)))]) ⟨Bd _, Tv⟩ (Dy (rdW (rdU n)) (Bc n (by omega)) (Cq n) _ _ (fun z hz => ?_))
  refine kq _ _ _ ?_
  refine AWp.seq (AWp.of_vc zb ?_)
  refine ACalls.le (ys := [.agg (zp (rdW (rdU n))), int 1]) ⟨Bd _, Tt, Tv⟩ (s8 n hn7 _ _ (fun oa m cap S2 hm hS2 => ?_))
  have hz2 : z = decide (n <= 4) := by
   cases z with
   | true => exact (decide_eq_true (hmz.1 (hz.1 rfl))).symm
   | false => exact (decide_eq_false fun e => by cases hz.2 (hmz.2 e)).symm
  subst hz2
  replace hS2 := hS2.trans hS
  clear hz hmz
  have hr3 : yv 3 = 4 := rfl
  refine AWp.meetA (σ := Unit) ⟨fun _ => [(1, .bx 1 0), (3, .bx 3 0), (4, .bx 4 0), (5, .av (int (n : Nat)))], fun _ => [(1, kk a), (3, [int 6, int 2, xl rdG.T]), (4, rdB (rdU n))], fun _ S' => S'.Has st'⟩ ?_ ?_
  ·refine AWp.of_vc zb ?_
   refine Ay 3 (by decide) _ _ ?_
   by_cases h4 : n <= 4
   ·have e1 : decide (n <= 4) = true := decide_eq_true h4
    have e2 : decide ((n : Int) <= yv 3) = true := decide_eq_true (by rw [hr3]; omega)
    have hmn := hm h4
    subst hmn
    rw [if_pos h4]
    refine zh (fun c2 => ?_) (fun _ => ?_)
    ·rw [e1, e2] at c2
     exact absurd c2 (by decide)
    refine zh (fun _ => ?_) (fun c2 => ?_)
    rotate_left
    ·rw [e1] at c2
     exact absurd c2 (by decide)
    refine kq _ _ _ ?_
    refine qu (fun c3 => absurd rfl c3) (fun _ => ?_)
    exact ⟨(), hS2, ⟨Tq, Tq, Tq, Tq, Tv⟩, ⟨rfl, rfl, rfl, Tv⟩⟩
   ·have e1 : decide (n <= 4) = false := decide_eq_false h4
    have e2 : decide ((n : Int) <= yv 3) = false := decide_eq_false (by rw [hr3]; omega)
    refine zh (fun c2 => ?_) (fun _ => ?_)
    ·rw [e1, e2] at c2
     exact absurd c2 (by decide)
    refine zh (fun c2 => ?_) (fun _ => ?_)
    ·rw [e1] at c2
     exact absurd c2 (by decide)
    exact ⟨(), hS2, ⟨Tq, Tq, Tq, Tq, Tv⟩, ⟨rfl, rfl, rfl, Tv⟩⟩
  rintro _ S3 hS3
  refine AWp.of_vc zb ?_
  refine zc4 (rdU n) (by omega) _ _ (fun v N hv ht hd => ?_)
  refine zd (by omega) ?_
  refine ⟨by decide, ?_⟩
  refine Hl (ie := ti37) rfl (fun _ => rfl) (by decide) (hv.unL hd) (rdR (2 + (n : Int))) rfl (by omega) (fun b2 cap2 L2 q1 q2 q3 q4 => ?_)
  obtain ⟨q5, q6⟩ := tc hv ht hd q1
  refine AWp.freezeBx (d := 4) (j := 7) (b := b2) (n := (rdU n ++ [rdR (2 + (n : Int))]).length) (cap := cap2) (k := 10) (rows := rws zi (rdU (n + 1))) (pad := L2) rfl rfl (zc _ _ _) q5 (zr _) q2 ta s9 ?_
  refine AWp.of_vc zb ?_
  refine zd (by omega) ?_
  refine ⟨n + 1, ?_, ⟨by omega, te hS3 q6⟩, ⟨Tq, Tq, Tq, Tq, Tv⟩, ⟨rfl, rfl, rfl, Tv⟩⟩
  show 7 - (n + 1) < 7 - n
  omega
 have hn7 : n = 7 := by omega
 subst hn7
 refine AWp.seq (AWp.of_vc zb ?_)
 refine ⟨0, 2, rfl, rfl, by decide, by decide, ?_⟩
 refine ACalls.le (ys := [lst 10 zi (rdU 1)]) ⟨Tt, Tv⟩ (zc2 (rdU 1) (by decide) _ _ ?_)
 refine AWp.meetA (σ := RdY) ⟨fun y => [(1, .bx 1 0), (3, .bx 3 0), (4, .bx 4 0), (9, .bx 9 0), (10, .bx 10 0), (11, .bx 11 0), (12, .bx 12 0)], fun y => (rdX a st' 83).bx y, fun y S' => rdI st' 4 y S'⟩ ?_ ?_
 ·refine AWp.of_vc zb ?_
  refine ADraw.of_states zb (by rfl) (by rfl) 84 (rdX a st') (by rfl) ?_ ⟨rfl, rfl⟩ ⟨fun _ => (0, 0, []), ⟨hS, fun i hi => absurd hi (Nat.not_lt_zero i)⟩, ⟨Tq, Tq, Tq, Tv⟩, ⟨rfl, rfl, rfl, Tv⟩⟩
  have call : ∀ (k : Nat) (y : RdY) (S : Store) (R : AV -> Store -> Prop), rdI st' k y S -> (∀ x S', rdI st' (k + 1) (vm y k x) S' -> R (.agg (xh (rdW (rdU 1)) (j4 (vm y k x) k))) S') -> ACalls Tryz.prog 13 [.agg (rdB (rdU 1))] S R := by
   intro k y S R hi hR
   refine ACalls.le (ys := [.agg (zp (rdW (rdU 1)))]) ⟨Bd _, Tv⟩ (zc1 (rdW (rdU 1)) (Bc 1 (by decide)) (by decide) _ _ (fun v N hv hd => ?_))
   obtain ⟨b, cap, L, rfl, ho, h1, h2, h3⟩ := hv.at (i := 0) (by decide)
   have := hR (b, cap, L) (N.un S) (tf hi hd ho h1 h2 h3)
   unfold j4 at this
   rw [show vm y k (b, cap, L) k = (b, cap, L) by
    show (bif Nat.beq k k then _ else _) = _
    rw [Nat.beq_refl]; rfl] at this
   exact this
  refine Hm ?_ (fun y S hi => ?_)
  rotate_left
  ·exact ⟨y, hi, ⟨Tq, Tq, Tq, Tq, Tq, Tq, Tq, Tv⟩, ⟨rfl, rfl, rfl, rfl, rfl, rfl, rfl, Tv⟩⟩
  iterate 4 (refine Hm ?_ (fun y S hi => ⟨⟨(by repeat (first | exact Tv | refine ⟨rfl, ?_⟩)), ⟨y, hi, ⟨(by repeat (first | exact Tv | refine ⟨Tq, ?_⟩)), (by repeat (first | exact Tv | refine ⟨rfl, ?_⟩))⟩, (by repeat (first | exact Tv | refine ⟨rfl, ?_⟩))⟩⟩, Tv⟩))
  iterate 79 (refine Hm ?_ (fun y S hi => by repeat (first | exact Tv | refine ⟨call _ _ _ _ hi (fun x S' hi' => ⟨(by repeat (first | exact Tv | refine ⟨rfl, ?_⟩)), ⟨_, hi', ⟨(by repeat (first | exact Tv | refine ⟨Tq, ?_⟩)), (by repeat (first | exact Tv | refine ⟨rfl, ?_⟩))⟩, (by repeat (first | exact Tv | refine ⟨rfl, ?_⟩))⟩⟩), ?_⟩ | refine ⟨⟨(by repeat (first | exact Tv | refine ⟨rfl, ?_⟩)), ⟨y, hi, ⟨(by repeat (first | exact Tv | refine ⟨Tq, ?_⟩)), (by repeat (first | exact Tv | refine ⟨rfl, ?_⟩))⟩, (by repeat (first | exact Tv | refine ⟨rfl, ?_⟩))⟩⟩, ?_⟩)))
  exact fun s hs => absurd hs (Nat.not_lt_zero s)
 rintro y S2 hi
 have g0 := hi.2 0 (by decide)
 have g1 := hi.2 1 (by decide)
 have g2 := hi.2 2 (by decide)
 have g3 := hi.2 3 (by decide)
 have hS2 := hi.1
 clear hi
 generalize hY0 : y 0 = y0 at g0
 generalize hY1 : y 1 = y1 at g1
 generalize hY2 : y 2 = y2 at g2
 generalize hY3 : y 3 = y3 at g3
 have m1 := g1.2.2 0 (by decide)
 have m2 := g2.2.2 0 (by decide)
 have m3 := g3.2.2 0 (by decide)
 have m4 := g2.2.2 1 (by decide)
 have m5 := g3.2.2 1 (by decide)
 have m6 := g3.2.2 2 (by decide)
 rw [hY0] at m1 m2 m3
 rw [hY1] at m4 m5
 rw [hY2] at m6
 obtain ⟨B0, c0, L0⟩ := y0
 obtain ⟨B1, c1, L1⟩ := y1
 obtain ⟨B2, c2, L2⟩ := y2
 obtain ⟨B3, c3, L3⟩ := y3
 dsimp only at g0 g1 g2 g3 m1 m2 m3 m4 m5 m6
 obtain ⟨⟨p0, q0⟩, n0, _⟩ := g0
 obtain ⟨⟨p1, q1⟩, n1, _⟩ := g1
 obtain ⟨⟨p2, q2⟩, n2, _⟩ := g2
 obtain ⟨⟨p3, q3⟩, n3, _⟩ := g3
 have eb : (rdX a st' 83).bx y = [(1, kk a), (3, [int 6, int 2, xl rdG.T]), (4, rdB (rdU 1)), (9, xh (rdW (rdU 1)) (.s (.slice (some ⟨B0, 0, none⟩) 2 c0))), (10, xh (rdW (rdU 1)) (.s (.slice (some ⟨B1, 0, none⟩) 2 c1))), (11, xh (rdW (rdU 1)) (.s (.slice (some ⟨B2, 0, none⟩) 2 c2))), (12, xh (rdW (rdU 1)) (.s (.slice (some ⟨B3, 0, none⟩) 2 c3)))] := by
  show [(1, kk a), (3, [int 6, int 2, xl rdG.T]), (4, rdB (rdU 1)), (9, xh (rdW (rdU 1)) (j4 y 0)), (10, xh (rdW (rdU 1)) (j4 y 1)), (11, xh (rdW (rdU 1)) (j4 y 2)), (12, xh (rdW (rdU 1)) (j4 y 3))] = _
  unfold j4
  rw [hY0, hY1, hY2, hY3]
 dsimp only
 rw [eb]
 clear eb hY0 hY1 hY2 hY3
 have hlen : ∀ (us : List Unt) (L : List AV), us.length = 2 -> ((rws zi us).flatten ++ L).length = 20 + L.length := fun us L e => by rw [List.length_append, F5 Fk, e]
 refine AWp.seq (AWp.of_vc zb ?_)
 refine ⟨1, rfl, by decide, ?_⟩
 refine vl (i := ti3) (v := int 2) (b := B0) (o := 0 + 1 * 10 + 1) (l := (rws zi (rdU 1)).flatten ++ L0) rfl rfl rfl p0 (by rw [hlen _ _ rfl]; omega) ?_
 refine AWp.seq (AWp.of_vc zb ?_)
 refine ADraw.of_sched zb (by rfl) (by rfl) py (by rfl) ?_
 refine ⟨F8 3 (by decide) _ _ _ rfl rd_cen.2 _ ⟨(by repeat (first | exact Tv | refine ⟨rfl, ?_⟩ | refine ⟨optR (optR (optR (za _ (zc _ _ _) rfl))), ?_⟩)), ?_⟩, Tv⟩
 refine ⟨1, rfl, by decide, ?_⟩
 refine ⟨?_, Tv⟩
 refine za _ rfl (Df rfl (Cd (v := .agg (zn (229376, 32768))) rfl rfl rfl rfl ?_))
 refine oo (i := ti34) (v := .agg (zn (229376, 32768))) (xs := zn (229376, 32768)) (b := B1) (o := 0 + 1 * 10 + 3) (l := (rws zi (rdU 1)).flatten ++ L1) rfl rfl rfl ((zj (Ne.symm m1)).trans p1) (by rw [hlen _ _ rfl]; show _ + 2 <= _; omega) ?_
 refine ⟨Tv, ?_⟩
 refine AWp.seq (AWp.of_vc zb ?_)
 refine ⟨0, rfl, by decide, ?_⟩
 refine vl (i := ti3) (v := int 1) (b := B2) (o := 0 + 0 * 10 + 2) (l := (rws zi (rdU 1)).flatten ++ L2) rfl rfl rfl (((zj (Ne.symm m4)).trans (zj (Ne.symm m2))).trans p2) (by rw [hlen _ _ rfl]; omega) ?_
 refine AWp.seq (AWp.of_vc zb ?_)
 refine ⟨1, rfl, by decide, ?_⟩
 refine vl (i := ti3) (v := int 3) (b := B3) (o := 0 + 1 * 10 + 2) (l := (rws zi (rdU 1)).flatten ++ L3) rfl rfl rfl (((zj (Ne.symm m6)).trans ((zj (Ne.symm m5)).trans (zj (Ne.symm m3)))).trans p3) (by rw [hlen _ _ rfl]; omega) ?_
 generalize hS3 : ((((S2.setObj B0 _).setObj B1 _).setObj B2 _).setObj B3 _) = S3
 have r0 : RowsO 10 zi S3 (.s (.slice (some ⟨B0, 0, none⟩) 2 c0)) [rdC, { rdR 2 with owner := 2 }] := by
  have e := (Cm (g := S2) (b := B0) (us := rdU 1) (L := L0) (cap := c0) q0.1 q0.2.1 q0.2.2 (i := 1) (j := 1) (by decide) (ys := [int 2]) (by decide) (u' := { rdR 2 with owner := 2 }) rfl)
  obtain ⟨b, cap, L, e1, e2, e3⟩ := e.at (i := 0) (by decide)
  cases e1
  refine .inr ⟨B0, c0, L, rfl, ?_, e3⟩
  rw [zc] at e2
  rw [<- hS3, zj m3, zj m2, zj m1, zc]
  exact e2
 have r1 : RowsO 10 zi S3 (.s (.slice (some ⟨B1, 0, none⟩) 2 c1)) [rdC, { rdR 2 with pos := (229376, 32768) }] := by
  have e := (Cm (g := S2) (b := B1) (us := rdU 1) (L := L1) (cap := c1) q1.1 q1.2.1 q1.2.2 (i := 1) (j := 3) (by decide) (ys := zn (229376, 32768)) (by decide) (u' := { rdR 2 with pos := (229376, 32768) }) rfl)
  obtain ⟨b, cap, L, e1, e2, e3⟩ := e.at (i := 0) (by decide)
  cases e1
  refine .inr ⟨B1, c1, L, rfl, ?_, e3⟩
  rw [zc] at e2
  rw [<- hS3, zj m5, zj m4, zc]
  exact e2
 have r2 : RowsO 10 zi S3 (.s (.slice (some ⟨B2, 0, none⟩) 2 c2)) [{ rdC with kind := 1 }, rdR 2] := by
  have e := (Cm (g := S2) (b := B2) (us := rdU 1) (L := L2) (cap := c2) q2.1 q2.2.1 q2.2.2 (i := 0) (j := 2) (by decide) (ys := [int 1]) (by decide) (u' := { rdC with kind := 1 }) rfl)
  obtain ⟨b, cap, L, e1, e2, e3⟩ := e.at (i := 0) (by decide)
  cases e1
  refine .inr ⟨B2, c2, L, rfl, ?_, e3⟩
  rw [zc] at e2
  rw [<- hS3, zj m6, zc]
  exact e2
 have r3 : RowsO 10 zi S3 (.s (.slice (some ⟨B3, 0, none⟩) 2 c3)) [rdC, { rdR 2 with kind := 3 }] := by
  have e := (Cm (g := S2) (b := B3) (us := rdU 1) (L := L3) (cap := c3) q3.1 q3.2.1 q3.2.2 (i := 1) (j := 2) (by decide) (ys := [int 3]) (by decide) (u' := { rdR 2 with kind := 3 }) rfl)
  obtain ⟨b, cap, L, e1, e2, e3⟩ := e.at (i := 0) (by decide)
  cases e1
  refine .inr ⟨B3, c3, L, rfl, ?_, e3⟩
  rw [zc] at e2
  rw [<- hS3, zc]
  exact e2
 have hh : S3.Has st' := by
  refine ⟨fun q z hz => ?_, fun q z hz => ?_⟩
  ·have ne : ∀ B, ¬ st'.has B -> q ≠ B := fun B hB e => hB (e ▸ js hz)
   rw [<- hS3, zj (ne _ n3), zj (ne _ n2), zj (ne _ n1), zj (ne _ n0)]
   exact hS2.obj q z hz
  ·rw [<- hS3]
   exact hS2.tok q z hz
 clear hS3 p0 p1 p2 p3 m1 m2 m3 m4 m5 m6 hS2 hlen
 have w2 : ∀ l : List Unt, l.length = 2 -> (rdW l).fits := fun l e => ⟨show rdG.T.length <= 1000000000000 by decide, show 0 <= 1000000000000 by decide, by show l.length <= _; omega⟩
 have ok1 : ∀ u : Unt, u.pos = (0, 0) \/ u.pos = (32768, 32768) \/ u.pos = (229376, 32768) -> u.pos.ok := fun u hu => by
  rcases hu with e | e | e <;> rw [e] <;> exact ⟨⟨by decide, by decide⟩, by decide, by decide⟩
 have ok2 : ∀ u v : Unt, (u.pos = (0, 0) \/ u.pos = (32768, 32768) \/ u.pos = (229376, 32768)) -> (v.pos = (0, 0) \/ v.pos = (32768, 32768) \/ v.pos = (229376, 32768)) -> ∀ x ∈ [u, v], x.pos.ok := fun u v hu hv x hx => by
  simp only [List.mem_cons, List.not_mem_nil, or_false] at hx
  rcases hx with rfl | rfl
  ·exact ok1 _ hu
  ·exact ok1 _ hv
 have hmay : yu (rdW (rdU 1)) := (F9 1 (by decide)).2 (by decide)
 obtain ⟨x0, x1, x2, x3⟩ := tb
 refine AWp.of_vc zb ?_
 refine ACalls.le (ys := [.agg (zp (rdW (rdU 1)))]) ⟨Bd _, Tv⟩ (sj (rdW (rdU 1)) (Bc 1 (by decide)) (Cq 1) _ _ (fun z hz => ?_))
 rw [hz.2 hmay]
 refine ACalls.le (ys := [.agg (zp (rdW (rdU 1)))]) ⟨Bd _, Tv⟩ (Dy (rdW (rdU 1)) (Bc 1 (by decide)) (Cq 1) _ _ (fun z1 hz1 => ?_))
 rw [hz1.2 hmay]
 refine kq _ _ _ ?_
 refine Dz (w := rdW _) r0 (w2 _ rfl) (ok2 _ _ (.inr (.inl rfl)) (.inl rfl)) _ (fun z2 hz2 => ?_)
 rw [show z2 = false from Bool.eq_false_iff.2 fun e => x0 (hz2.1 e)]
 refine kq _ _ _ ?_
 refine Dz (w := rdW _) r1 (w2 _ rfl) (ok2 _ _ (.inr (.inl rfl)) (.inr (.inr rfl))) _ (fun z3 hz3 => ?_)
 rw [show z3 = false from Bool.eq_false_iff.2 fun e => x1 (hz3.1 e)]
 refine kq _ _ _ ?_
 refine Dz (w := rdW _) r2 (w2 _ rfl) (ok2 _ _ (.inr (.inl rfl)) (.inl rfl)) _ (fun z4 hz4 => ?_)
 rw [show z4 = false from Bool.eq_false_iff.2 fun e => x2 (hz4.1 e)]
 refine kq _ _ _ ?_
 refine Dz (w := rdW _) r3 (w2 _ rfl) (ok2 _ _ (.inr (.inl rfl)) (.inl rfl)) _ (fun z5 hz5 => ?_)
 rw [show z5 = false from Bool.eq_false_iff.2 fun e => x3 (hz5.1 e)]
 refine kq _ _ _ ?_
 exact zd7 _ _ (j3 (Tt) hh h)
end Go.Proofs
