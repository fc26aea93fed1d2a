/- The ground on which laws of thronglaw21 are proved: contracts of functions and plain lemmas; no condition beyond the row's own. -/
import Derived.Test.YtlhjkalolohipaaGreatVH
namespace Go.V
set_option linter.unusedVariables false

/-- A store of many cells into an object. -/
theorem storeK_objL {i : TI} {A : Fr} {st : Store} {b o : Nat} {v : AV} {xs l : List AV} {K : Fr → Store → Prop} (hc : cellsOf v = some xs) (h1 : xs.all AV.one = true) (hi : i.size = xs.length) (ho : st.obj b = some (.cells l)) (hl : o + xs.length ≤ l.length)
    (hk : K A (st.setObj b (.cells (splice l o xs)))) : storeK i A st (.av (.s (.pointer (some ⟨b, o, none⟩)))) v K := by
  unfold storeK
  rw [hc]
  show (bif Nat.beq xs.length i.size && (xs.all AV.one) then _ else False)
  rw [hi]
  simp only [h1, Nat.beq_refl, Bool.and_self, cond_true]
  rw [ho]
  exact ⟨hl, forceL_intro hk⟩

theorem rad_b (k : Int) : 24576 ≤ kRad k ∧ kRad k ≤ 81920 := by unfold kRad; split <;> (try split) <;> omega

/-- Where a disc stands that is free. -/
theorem free_b {g : Gnd} (hg : gndP g) {l : List Bld} {c : Int} {p : Vc} {k : Int} (h : freeP g l c p (kRad k)) : (24576 ≤ p.1 ∧ p.1 + 24576 ≤ g.W * 65536) ∧ (24576 ≤ p.2 ∧ p.2 + 24576 ≤ g.H * 65536) ∧ (p.1 ≤ 8388608 ∧ p.2 ≤ 8388608) := by
  have h1 := h.1
  have h2 := rad_b k
  obtain ⟨⟨_, h3⟩, ⟨_, h4⟩, _⟩ := hg
  omega

def tileAt (g : Gnd) (p : Vc) : Nat := (p.1 / 65536 + g.W * (p.2 / 65536)).toNat

theorem tileAt_eq {g : Gnd} (hg : gndP g) {p : Vc} (h : (0 ≤ p.1 ∧ p.1 < g.W * 65536) ∧ (0 ≤ p.2 ∧ p.2 < g.H * 65536)) :
    ((tileAt g p : Nat) : Int) = p.1 / 65536 + g.W * (p.2 / 65536) ∧ tileAt g p < g.T.length ∧ ((tileAt g p : Nat) : Int) % g.W = p.1 / 65536 ∧ ((tileAt g p : Nat) : Int) / g.W = p.2 / 65536 := by
  have hs := tile_split hg (x := p.1 / 65536) (y := p.2 / 65536) (by omega) (by omega)
  have ha := gnd_area hg
  unfold tileAt
  generalize p.1 / 65536 = x at *
  generalize p.2 / 65536 = y at *
  have e : ((x + g.W * y).toNat : Int) = x + g.W * y := by omega
  rw [e]
  exact ⟨rfl, by omega, hs.2.2.1, hs.2.2.2⟩

theorem hit_at {g : Gnd} (hg : gndP g) {p : Vc} (h : (0 ≤ p.1 ∧ p.1 < g.W * 65536) ∧ (0 ≤ p.2 ∧ p.2 < g.H * 65536)) {r : Int} (hr : 0 < r) : hitP g (tileAt g p) p r := by
  obtain ⟨h1, h2, h3, h4⟩ := tileAt_eq hg h
  have e1 : off p.1 (tx g (tileAt g p)) = 0 := by
    unfold tx off
    rw [h3]
    generalize hq : p.1 / 65536 = q
    rw [if_neg (by omega), if_neg (by omega)]
  have e2 : off p.2 (ty g (tileAt g p)) = 0 := by
    unfold ty off
    rw [h4]
    generalize hq : p.2 / 65536 = q
    rw [if_neg (by omega), if_neg (by omega)]
  unfold hitP
  rw [e1, e2]
  have := Int.mul_pos hr hr
  omega

theorem free_open {g : Gnd} (hg : gndP g) {l : List Bld} {c : Int} {p : Vc} {k : Int} (h : freeP g l c p (kRad k)) : 0 < price c (g.T.getD (tileAt g p) 0).toNat := by
  have hb := free_b hg h
  have hin : (0 ≤ p.1 ∧ p.1 < g.W * 65536) ∧ (0 ≤ p.2 ∧ p.2 < g.H * 65536) := by omega
  have ht := (tileAt_eq hg hin).2.1
  apply Decidable.byContradiction
  intro hno
  have ho : openB g l c (tileAt g p) = false := by
    unfold openB
    rw [decide_eq_false hno, Bool.and_false]
  exact h.2 _ ht ho (hit_at hg hin (by have := rad_b k; omega))

theorem near_self (p : Vc) (hp : (0 ≤ p.1 ∧ p.1 ≤ 8388608) ∧ (0 ≤ p.2 ∧ p.2 ≤ 8388608)) {r : Int} (hr : 0 < r) : near p p r = true := by
  rw [near_small (by omega) (by omega) (by omega) (by omega) hr, decide_eq_true_iff]
  have := Int.mul_pos hr hr
  simp only [Int.sub_self]
  omega

/-- Onto another one's place. -/
theorem not_onto {w : Wld} (hm : mayP w) {i k : Nat} (hi : i < w.U.length) (hk : k < i) (ha : w.U[i].inn = 0) (hb : (w.U[k]'(by omega)).inn = 0) :
    ¬ clearP w w.U[i].id w.U[i].kind (w.U[k]'(by omega)).pos ∧ ¬ mayP (setUs w (w.U.set i { w.U[i] with pos := (w.U[k]'(by omega)).pos })) := by
  have hg := hm.1.1.2.1.1
  have hlt := risesU_lt' hm.1.2.1 hk hi
  have hkm : w.U[k]'(by omega) ∈ w.U := List.getElem_mem _
  have hfb := free_b hg (hm.2.1 _ hkm hb).1
  have r1 := rad_b w.U[i].kind
  have r2 := rad_b (w.U[k]'(by omega)).kind
  have hself : apart (w.U[k]'(by omega)).pos (kRad w.U[i].kind) (w.U[k]'(by omega)).pos (kRad (w.U[k]'(by omega)).kind) = false := by
    unfold apart
    rw [near_self _ (by omega) (by omega)]
    rfl
  refine ⟨fun h => ?_, fun h => ?_⟩
  · have := h.2 _ hkm hb (by omega)
    rw [hself] at this
    cases this
  · have hmem : { w.U[i] with pos := (w.U[k]'(by omega)).pos } ∈ (setUs w (w.U.set i { w.U[i] with pos := (w.U[k]'(by omega)).pos })).U :=
      List.mem_iff_getElem.2 ⟨i, by show i < (w.U.set i _).length; rw [List.length_set]; exact hi, List.getElem_set_self _⟩
    have hkm2 : w.U[k]'(by omega) ∈ (setUs w (w.U.set i { w.U[i] with pos := (w.U[k]'(by omega)).pos })).U :=
      List.mem_iff_getElem.2 ⟨k, by show k < (w.U.set i _).length; rw [List.length_set]; omega, List.getElem_set_ne (by omega) _⟩
    have := (h.2.1 _ hmem ha).2 _ hkm2 hb (by show (w.U[k]'(by omega)).id ≠ w.U[i].id; omega)
    have this : apart (w.U[k]'(by omega)).pos (kRad w.U[i].kind) (w.U[k]'(by omega)).pos (kRad (w.U[k]'(by omega)).kind) = true := this
    rw [hself] at this
    cases this

/-- Two on the field. -/
theorem apart_far {w : Wld} (hm : mayP w) {i k : Nat} (hi : i < w.U.length) (hk : k < i) (ha : w.U[i].inn = 0) (hb : (w.U[k]'(by omega)).inn = 0) :
    vsub w.U[i].pos (w.U[k]'(by omega)).pos = (w.U[i].pos.1 - (w.U[k]'(by omega)).pos.1, w.U[i].pos.2 - (w.U[k]'(by omega)).pos.2) ∧
    (-8388608 ≤ w.U[i].pos.1 - (w.U[k]'(by omega)).pos.1 ∧ w.U[i].pos.1 - (w.U[k]'(by omega)).pos.1 ≤ 8388608) ∧ (-8388608 ≤ w.U[i].pos.2 - (w.U[k]'(by omega)).pos.2 ∧ w.U[i].pos.2 - (w.U[k]'(by omega)).pos.2 ≤ 8388608) ∧
    ¬ ((w.U[i].pos.1 - (w.U[k]'(by omega)).pos.1) * (w.U[i].pos.1 - (w.U[k]'(by omega)).pos.1) + (w.U[i].pos.2 - (w.U[k]'(by omega)).pos.2) * (w.U[i].pos.2 - (w.U[k]'(by omega)).pos.2) < (kRad w.U[i].kind + kRad (w.U[k]'(by omega)).kind) * (kRad w.U[i].kind + kRad (w.U[k]'(by omega)).kind)) := by
  have hg := hm.1.1.2.1.1
  have hlt := risesU_lt' hm.1.2.1 hk hi
  have hkm : w.U[k]'(by omega) ∈ w.U := List.getElem_mem _
  have hci := hm.2.1 _ (List.getElem_mem hi) ha
  have h1 := free_b hg hci.1
  have h2 := free_b hg (hm.2.1 _ hkm hb).1
  have r1 := rad_b w.U[i].kind
  have r2 := rad_b (w.U[k]'(by omega)).kind
  have h3 := hci.2 _ hkm hb (by omega)
  refine ⟨vsub_small (by omega) (by omega) (by omega) (by omega), by omega, by omega, fun h => ?_⟩
  unfold apart at h3
  rw [near_small (by omega) (by omega) (by omega) (by omega) (by omega), decide_eq_true h] at h3
  cases h3

theorem sq_b {x : Int} (h : -8388608 ≤ x ∧ x ≤ 8388608) : 0 ≤ x * x ∧ x * x ≤ 70368744177664 := by
  have h0 : 0 ≤ x * x := by
    rcases Int.le_total 0 x with h1 | h1
    · exact Int.mul_nonneg h1 h1
    · exact Int.mul_nonneg_of_nonpos_of_nonpos h1 h1
  refine ⟨h0, ?_⟩
  have e : x * x = ((x.natAbs * x.natAbs : Nat) : Int) := Int.natAbs_mul_self.symm
  have h2 : x.natAbs ≤ 8388608 := by omega
  have h3 : x.natAbs * x.natAbs ≤ 8388608 * 8388608 := Nat.mul_le_mul h2 h2
  rw [e]
  omega
end Go.V
