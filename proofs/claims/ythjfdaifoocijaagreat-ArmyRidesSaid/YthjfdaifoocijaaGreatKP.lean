/- Ground of laws of thronglaw21: contracts and plain lemmas; no condition beyond the row's own. -/
import Derived.Test.YthjfdaifoocijaaGreatKO
import Derived.Test.YthjfdaifoocijaaGreatKL
set_option linter.unusedSimpArgs false
set_option linter.unusedVariables false
namespace Go.Proofs
open Go Go.V
set_option maxRecDepth 4000
theorem Lk (st : Store) : zv Store.empty st := fun b hb => (hb.elim (fun h => h rfl) (fun h => h rfl) : False).elim
theorem zc5 (l : List Unt) (hl : l.length <= 1000000) (R : AV -> Store -> Prop) (h : ∀ v N, RowsO 10 zi N v l -> R v N) : ACalls Tryz.prog 12 [lst 10 zi l] Store.empty R := by
 refine ACalls.of_body (c := cfg 19) zb Tryz.func12 (by rfl) (by rfl) (by rfl) (by rfl) ?_
 refine AWp.loop (σ := Nat × AV × Store) ⟨fun s => [(0, .av (lst 10 zi l)), (3, .av s.2.1), (4, .av (int s.1))], fun _ => [], fun s st' => s.1 <= l.length /\ st' = s.2.2 /\ RowsO 10 zi s.2.2 s.2.1 (l.take s.1), fun s => l.length - s.1⟩ zb ?_ ?_
 ·exact ⟨(0, _, Store.empty), Tv, ⟨Nat.zero_le _, rfl, .inl ⟨rfl, rfl⟩⟩, ⟨Tq, Tq, Tq, Tv⟩, Tv⟩
 ·rintro ⟨i, v, N⟩ st' ⟨hi, rfl, ha⟩
  dsimp only at hi ha ⊢
  refine zh (fun h1 => ?_) (fun h1 => ?_)
  ·have hlt : i < l.length := qk h1
   refine ⟨i, rfl, za _ (zk hlt) ?_⟩
   refine ⟨by decide, ?_⟩
   refine Hl (ie := ti37) rfl (fun _ => rfl) (by decide) ha l[i] rfl (by rw [List.length_take]; omega) (fun b cap L q1 q2 q3 q4 => ?_)
   refine ⟨⟨by omega, by omega⟩, ?_⟩
   refine ⟨(i + 1, _, _), ?_, ⟨hlt, rfl, ?_⟩, ⟨Tq, Tq, Tq, Tv⟩, Tv⟩
   ·show l.length - (i + 1) < l.length - i
    omega
   ·dsimp only
    rw [List.take_succ_eq_append_getElem hlt]
    exact .inr ⟨b, cap, L, rfl, zc _ _ _, q2, q3, q4⟩
  ·have hge : i = l.length := q9 h1 hi
   subst hge
   rw [List.take_length] at ha
   exact ret (h _ _ ha)
theorem zc6 (l : List Unt) (hl : l.length <= 1000000) (st : Store) (R : AV -> Store -> Prop) (h : ∀ v N, RowsO 10 zi N v l -> zv N st -> R v (N.un st)) : ACalls Tryz.prog 12 [lst 10 zi l] st R := by
 rw [<- Ds st]
 exact ACalls.frame (Lk st) (zc5 l hl (fun v N => RowsO 10 zi N v l) fun v N hv => hv) fun v N hv hd => h v N hv hd
theorem zc1 (w : Wld) (hw : w.fits) (hU : w.U.length <= 1000000) (st : Store) (R : AV -> Store -> Prop) (h : ∀ v N, RowsO 10 zi N v w.U -> zv N st -> R (.agg (xh w v)) (N.un st)) : ACalls Tryz.prog 13 [.agg (zp w)] st R := by
 refine ACalls.of_body (c := cfg 18) zb Tryz.func13 (by rfl) (by rfl) (by rfl) (by rfl) ?_
 refine zc7 w.G hw.1 _ _ ?_
 refine zc9 w.B hw.2.1 _ _ ?_
 refine zc6 w.U hU _ _ (fun v N hv hd => ?_)
 have hv2 := hv
 rcases hv2 with ⟨rfl, _⟩ | ⟨b, cap, L, rfl, _⟩
 ·exact ret (h _ N hv hd)
 ·exact ret (h _ N hv hd)
theorem Dz {g : Store} {w : Wld} {v : AV} (hv : RowsO 10 zi g v w.U) (hw : w.fits) (hn : ∀ u ∈ w.U, u.pos.ok) (R : AV -> Store -> Prop) (h : ∀ z : Bool, (z = true ↔ yu w) -> R (int (if z then 0 else 1)) g) : ACalls Tryz.prog 9 [.agg (xh w v)] g R :=
 ACalls.read (ys := [.agg (zp w)]) (Q := fun r => ∃ z : Bool, r = int (if z then 0 else 1) /\ (z = true ↔ yu w)) (fun Oth M W vs sto hr => by
  obtain ⟨x, rfl, h1⟩ := Ba hr
  exact Reads.cons (Mx hv sto h1) Reads.nil) (Dy w hw hn _ _ fun z hz => ⟨z, rfl, hz⟩) (fun r ⟨z, e, _⟩ => e ▸ zbz _) (fun r ⟨z, e, hz⟩ => e ▸ h z hz)
/-- One cell of a unit is stored. -/
theorem Cm {g : Store} {b cap : Nat} {us : List Unt} {L : List AV} (h1 : us.length <= cap) (h2 : cap * 10 <= us.length * 10 + L.length) (h3 : cap <= 9223372036854775807) {i j : Nat} (hi : i < us.length) {ys : List AV} (hj : j + ys.length <= 10) {u' : Unt} (hu : zi u' = z6 (zi us[i]) j ys) :
  RowsO 10 zi (g.setObj b (.cells (z6 ((rws zi us).flatten ++ L) (0 + i * 10 + j) ys))) (.s (.slice (some ⟨b, 0, none⟩) us.length cap)) (us.set i u') := by
 refine .inr ⟨b, cap, L, by rw [List.length_set], ?_, by rw [List.length_set]; exact h1, by rw [List.length_set]; exact h2, h3⟩
 rw [zc, Nat.zero_add, ov Fk hi hj hu]
theorem Ints.unL {a g : Store} {v : AV} {ns : List Int} (h : Ints a v ns) (hd : zv a g) : Ints (a.un g) v ns := by
 rcases h with h | ⟨b1, cap, L, h1, h2, h3⟩
 ·exact .inl h
 ·exact .inr ⟨b1, cap, L, h1, y5 hd h2, h3⟩
def findU (l : List Unt) (id : Int) : Option Nat := l.findIdx? fun u => decide (u.id = id)
def unt0 : Unt := ⟨0, 0, 0, (0, 0), 0, 0, 0, 0, 0⟩
theorem findU_some {l : List Unt} {id : Int} {i : Nat} (h : findU l id = some i) : ∃ hi : i < l.length, l[i].id = id := by
 unfold findU at h
 rw [List.findIdx?_eq_some_iff_getElem] at h
 obtain ⟨h1, h2, _⟩ := h
 exact ⟨h1, of_decide_eq_true h2⟩
theorem findU_none {l : List Unt} {id : Int} (h : findU l id = none) : ∀ u ∈ l, u.id ≠ id := by
 unfold findU at h
 rw [List.findIdx?_eq_none_iff] at h
 exact fun u hu => of_decide_eq_false (h u hu)
theorem findU_mk {l : List Unt} (hr : y6 l) {id : Int} {i : Nat} (hi : i < l.length) (e : l[i].id = id) : findU l id = some i := by
 cases h : findU l id with
 | none => exact absurd e (findU_none h _ (List.getElem_mem hi))
 | some k =>
  obtain ⟨hk, e2⟩ := findU_some h
  by_cases h1 : k < i
  ·have := Co hr h1 hi; omega
  ·by_cases h2 : i < k
   ·have := Co hr h2 hk; omega
   ·rw [show k = i by omega]
theorem zb6 {l : List Unt} (hr : y6 l) {id : Int} {i : Nat} {z : Bool} (h : z = true ↔ ∃ hi : i < l.length, l[i].id = id) (hat : C6 l id i) : (z = true -> findU l id = some i) /\ (z = false -> findU l id = none) := by
 refine ⟨fun hz => ?_, fun hz => ?_⟩
 ·obtain ⟨hi, e⟩ := h.1 hz
  exact findU_mk hr hi e
 ·cases hf : findU l id with
  | none => rfl
  | some k =>
   obtain ⟨hk, e⟩ := findU_some hf
   have hno : ¬ ∃ hi : i < l.length, l[i].id = id := fun hh => by rw [h.2 hh] at hz; cases hz
   by_cases h1 : k < i
   ·have := hat.2.1 k hk h1; omega
   ·have hil : i < l.length := by omega
    have := hat.2.2 i hil (Nat.le_refl _)
    by_cases h2 : i < k
    ·have := Co hr h2 hk; omega
    ·have e3 : k = i := by omega
     subst e3
     exact absurd ⟨hk, e⟩ hno
theorem zaz (l : List Unt) (hl : l.length <= 1000000) (id : Int) (R : AV -> Store -> Prop) (h : ∀ v N, Ints N v (zq l id) -> R v N) : ACalls Tryz.prog 42 [lst 10 zi l, int id] Store.empty R := by
 refine ACalls.of_body (c := cfg 24) zb Tryz.func42 (by rfl) (by rfl) (by rfl) (by rfl) ?_
 refine AWp.loop (σ := Nat × AV × Store) ⟨fun x => [(1, .av (int id)), (4, .av x.2.1), (7, .av (lst 10 zi l)), (8, .av (int (l.length : Nat))), (9, .av (int (x.1 : Nat)))], fun _ => [],
  fun x st' => x.1 <= l.length /\ st' = x.2.2 /\ Ints x.2.2 x.2.1 (zq (l.take x.1) id), fun x => l.length - x.1⟩ zb ?_ ?_
 ·refine ⟨(0, _, Store.empty), Tv, ⟨Nat.zero_le _, rfl, .inl ⟨rfl, rfl⟩⟩, ⟨Tq, Tq, Tq, ?_, Tq, Tv⟩, Tv⟩
  rw [<- zr (f := zi) l]; exact Tq
 rintro ⟨i, v, N⟩ st' ⟨hi, rfl, hv⟩
 dsimp only at hi hv ⊢
 refine bcd (fun h1 => ?_) (fun h1 => ?_)
 rotate_left
 ·have : i = l.length := by omega
  subst this
  rw [List.take_length] at hv
  exact ret (h _ _ hv)
 have hlt : i < l.length := by omega
 have hs := Kw hlt id
 have hl1 : (zq (l.take i) id).length <= 1000000 := by
  have h1 := Da (l := l) i id
  have h2 : (zq l id).length <= l.length := by unfold zq; rw [List.length_map]; exact List.length_filter_le _ _
  omega
 refine ⟨i, rfl, za _ (zk hlt) ?_⟩
 refine yx (fun c1 => ?_) (fun c1 => ?_)
 ·rw [if_pos c1] at hs
  refine ⟨by decide, ?_⟩
  refine Mj (ie := ti3) rfl rfl rfl hv l[i].id (by omega) (fun b cap L q1 q2 q3 q4 => ?_)
  refine zd (by omega) ?_
  refine ⟨(i + 1, _, _), ?_, ⟨by dsimp only; omega, rfl, ?_⟩, ⟨Tq, Tq, Tq, Tq, Tq, Tv⟩, Tv⟩
  ·show l.length - (i + 1) < l.length - i
   omega
  ·dsimp only
   rw [hs]
   exact .inr ⟨b, cap, L, rfl, zc _ _ _, q2, q3, q4⟩
 ·rw [if_neg c1, List.append_nil] at hs
  refine zd (by omega) ?_
  refine ⟨(i + 1, v, st'), ?_, ⟨by dsimp only; omega, rfl, ?_⟩, ⟨Tq, Tq, Tq, Tq, Tq, Tv⟩, Tv⟩
  ·show l.length - (i + 1) < l.length - i
   omega
  ·dsimp only
   rw [hs]
   exact hv
theorem zck (st : Store) : zv Store.empty st := fun b hb => (hb.elim (fun h => h rfl) (fun h => h rfl) : False).elim
theorem zay (l : List Unt) (hl : l.length <= 1000000) (id : Int) (st : Store) (R : AV -> Store -> Prop) (h : ∀ v N, Ints N v (zq l id) -> zv N st -> R v (N.un st)) : ACalls Tryz.prog 42 [lst 10 zi l, int id] st R := by
 rw [<- Ds st]
 exact ACalls.frame (zck st) (zaz l hl id (fun v N => Ints N v (zq l id)) fun v N hv => hv) fun v N hv hd => h v N hv hd
theorem zac {w : Wld} (h : yu w) : y6 w.U /\ w.U.length <= 4096 := ⟨h.1.2.1, h.1.1.2.1.2.2⟩
theorem zd9 (w : Wld) (hw : w.fits) (hn : ∀ u ∈ w.U, u.pos.ok) (id : Int) (st : Store) (R : AV -> Store -> Prop)
  (h0 : ¬ yu w -> R (.tup [.s (.slice none 0 0), int 1]) st) (h1 : yu w -> findU w.U id = none -> R (.tup [.s (.slice none 0 0), int 3]) st)
  (h2 : yu w -> ∀ i, findU w.U id = some i -> ∀ v N, Ints N v (zq w.U id) -> zv N st -> R (.tup [v, int 0]) (N.un st)) : ACalls Tryz.prog 10 [.agg (zp w), int id] st R := by
 refine ACalls.of_body (c := cfg 24) zb Tryz.func10 (by rfl) (by rfl) (by rfl) (by rfl) ?_
 refine Ki w hw hn _ _ (Mr (fun hm => ?_) (fun hm => ret (h0 hm)))
 obtain ⟨hr, hU⟩ := zac hm
 refine Hg w.U (by omega) hr id _ _ (fun i hi z hz => ?_)
 obtain ⟨g1, g2⟩ := zb6 hr hz hi
 cases z with
 | false => exact ret (h1 hm (g2 rfl))
 | true =>
  refine zay w.U (by omega) id _ _ (fun v N hv hd => ?_)
  exact ret (h2 hm i (g1 rfl) v N hv hd)
end Go.Proofs
