/- The ground on which laws of thronglaw16 are proved: contracts of functions and plain lemmas; no condition beyond the row's own. -/
import Derived.Test.YtlhjkalolohipaaRows
import Derived.Test.YtlhjkalolohipaaVF
import Derived.Test.YtlhjkalolohipaaVC
import Derived.Test.YtlhjkalolohipaaSE
namespace Go.V
set_option linter.unusedVariables false

/-- The grid's places. -/
def p1 (k : Nat) : Vc := ((k : Int).tmod 10 * 65536, (k : Int).tdiv 10 * 65536)
def p2 (k : Nat) : Vc := ((0 - (k : Int).tmod 10) * 65536, (k : Int).tdiv 10 * 65536 - 6553600)
def inC (r : Nat) (k : Nat) : Bool := decide (((k : Int).tmod 10 - 5) * ((k : Int).tmod 10 - 5) + ((k : Int).tdiv 10 - 5) * ((k : Int).tdiv 10 - 5) ≤ (r : Int) * (r : Int))

theorem p1_b {k : Nat} (h : k < 100) : (0 ≤ (k : Int).tmod 10 ∧ (k : Int).tmod 10 ≤ 9) ∧ (0 ≤ (k : Int).tdiv 10 ∧ (k : Int).tdiv 10 ≤ 9) := by
  have h1 : (k : Int).tmod 10 = (k : Int) % 10 := Int.tmod_eq_emod_of_nonneg (by omega)
  have h2 : (k : Int).tdiv 10 = (k : Int) / 10 := Int.tdiv_eq_ediv_of_nonneg (by omega)
  rw [h1, h2]
  omega
theorem p1_ok {k : Nat} (h : k < 100) : (p1 k).ok := by
  have := p1_b h
  unfold p1 Vc.ok InI64
  simp only
  omega
theorem p2_ok {k : Nat} (h : k < 100) : (p2 k).ok := by
  have := p1_b h
  unfold p2 Vc.ok InI64
  simp only
  omega

theorem near1 : ∀ r : Nat, r < 5 → ∀ k, k < 100 → near (327680, 327680) (p1 k) ((r : Int) * 65536 + 1) = inC r k := by
  have : ((List.range 5).all fun (r : Nat) => (List.range 100).all fun k => near (327680, 327680) (p1 k) ((r : Int) * 65536 + 1) == inC r k) = true := by decide +kernel
  intro r hr k hk
  have h1 := List.all_eq_true.1 this r (List.mem_range.2 hr)
  have h2 := List.all_eq_true.1 h1 k (List.mem_range.2 hk)
  simpa using h2
theorem near2 : ∀ k, k < 100 → near (327680, 327680) (p2 k) 1310720 = false := by
  have : ((List.range 100).all fun k => near (327680, 327680) (p2 k) 1310720 == false) = true := by decide +kernel
  intro k hk
  have h2 := List.all_eq_true.1 this k (List.mem_range.2 hk)
  simpa using h2
theorem near3 : ∀ k, k < 100 → near (-327680, -6225920) (p2 k) 6553600 = true := by
  have : ((List.range 100).all fun k => near (-327680, -6225920) (p2 k) 6553600) = true := by decide +kernel
  intro k hk
  exact List.all_eq_true.1 this k (List.mem_range.2 hk)
theorem inC55 (r : Nat) (h : r < 5) : inC r 55 = true := by
  have : ((List.range 5).all fun r => inC r 55) = true := by decide +kernel
  exact List.all_eq_true.1 this r (List.mem_range.2 h)

/-- Who stands in the grid. -/
def Grid (L : List Ent) (f : Nat → Vc) (n : Nat) : Prop := ∀ e, e ∈ L ↔ ∃ k, k < n ∧ e = ((k : Int), f k)

theorem Grid.put {L : List Ent} {f : Nat → Vc} {n : Nat} (h : Grid L f n) {i : Nat} {v : Vc} {g : Nat → Vc} {m : Nat} (hg : ∀ k, k < m ↔ (k < n ∨ k = i)) (hf : ∀ k, g k = if k = i then v else f k) : Grid (dropId L (i : Int) ++ [((i : Int), v)]) g m := by
  intro e
  rw [List.mem_append, mem_dropId, h e]
  constructor
  · rintro (⟨⟨k, hk, rfl⟩, hne⟩ | he)
    · have : k ≠ i := fun e => hne (by rw [e])
      exact ⟨k, (hg k).2 (.inl hk), by rw [hf k, if_neg this]⟩
    · simp at he
      subst he
      exact ⟨i, (hg i).2 (.inr rfl), by rw [hf i, if_pos rfl]⟩
  · rintro ⟨k, hk, rfl⟩
    by_cases hki : k = i
    · subst hki
      rw [hf k, if_pos rfl]
      exact .inr (by simp)
    · rw [hf k, if_neg hki]
      rcases (hg k).1 hk with h1 | h1
      · exact .inl ⟨⟨k, h1, rfl⟩, fun e => hki (by omega)⟩
      · exact absurd h1 hki

def upI (l : List Nat) : List Int := l.map fun (k : Nat) => (k : Int)
theorem upI_len (l : List Nat) : (upI l).length = l.length := by simp [upI]
theorem upI_sorted (n : Nat) (q : Nat → Bool) : (upI ((List.range n).filter q)).Pairwise (· < ·) := by
  unfold upI
  rw [List.pairwise_map]
  exact ((List.pairwise_lt_range (n := n)).filter q).imp fun h => by omega

/-- The numbers that are near, of a grid. -/
theorem Grid.near {L : List Ent} {f : Nat → Vc} {n : Nat} (h : Grid L f n) {q : Vc} {r : Int} {ns : List Int} (hn : IsNear L q r ns) {t : Nat → Bool} (ht : ∀ k, k < n → Go.V.near q (f k) r = t k) : ns = upI ((List.range n).filter t) := by
  refine sorted_eq hn.1 (upI_sorted n t) fun id => ?_
  rw [hn.2 id]
  unfold upI
  rw [List.mem_map]
  constructor
  · rintro ⟨e, he, hid, hnr⟩
    obtain ⟨k, hk, rfl⟩ := (h e).1 he
    rw [ht k hk] at hnr
    exact ⟨k, List.mem_filter.2 ⟨List.mem_range.2 hk, hnr⟩, hid⟩
  · rintro ⟨k, hk, hid⟩
    obtain ⟨h1, h2⟩ := List.mem_filter.1 hk
    have h1 := List.mem_range.1 h1
    exact ⟨((k : Int), f k), (h _).2 ⟨k, h1, rfl⟩, hid, by rw [ht k h1]; exact h2⟩

theorem Grid.len {L : List Ent} {f : Nat → Vc} {n : Nat} (h : Grid L f n) (hn : (L.map (·.1)).Nodup) : L.length = n := by
  have h1 : (((List.range n).map fun (k : Nat) => ((k : Int), f k)).map (·.1)).Nodup := by
    rw [List.map_map]
    unfold List.Nodup
    rw [List.pairwise_map]
    exact (List.pairwise_lt_range (n := n)).imp fun h => by simp; omega
  have h2 := same_lenE hn h1 (fun e => by
    rw [h e, List.mem_map]
    constructor
    · rintro ⟨k, hk, rfl⟩; exact ⟨k, List.mem_range.2 hk, rfl⟩
    · rintro ⟨k, hk, rfl⟩; exact ⟨k, List.mem_range.1 hk, rfl⟩)
  simpa using h2

theorem count_step (t : Nat → Bool) (i : Nat) : ((List.range (i + 1)).filter t).length = ((List.range i).filter t).length + (if t i then 1 else 0) := by
  rw [List.range_succ, List.filter_append, List.length_append]
  by_cases h : t i <;> simp [h]

theorem at_step (t : Nat → Bool) {i n : Nat} (hi : i < n) (h : t i = true) : (upI ((List.range n).filter t))[((List.range i).filter t).length]? = some (i : Int) := by
  obtain ⟨d, rfl⟩ : ∃ d, n = i + 1 + d := ⟨n - (i + 1), by omega⟩
  have e : List.range (i + 1 + d) = List.range i ++ (i :: (List.range d).map (fun x => i + 1 + x)) := by
    rw [List.range_add, List.range_succ]
    simp
  rw [e, List.filter_append, List.filter_cons_of_pos h]
  unfold upI
  rw [List.map_append, List.getElem?_append_right (by simp)]
  simp
theorem count_le_all (t : Nat → Bool) {i n : Nat} (hi : i ≤ n) : ((List.range i).filter t).length ≤ ((List.range n).filter t).length := by
  obtain ⟨d, rfl⟩ : ∃ d, n = i + d := ⟨n - i, by omega⟩
  rw [List.range_add, List.filter_append, List.length_append]
  omega

theorem prod_b : ∀ k : Nat, k < 100 → 0 ≤ ((k : Int).tmod 10 - 5) * ((k : Int).tmod 10 - 5) ∧ ((k : Int).tmod 10 - 5) * ((k : Int).tmod 10 - 5) ≤ 25 ∧ 0 ≤ ((k : Int).tdiv 10 - 5) * ((k : Int).tdiv 10 - 5) ∧ ((k : Int).tdiv 10 - 5) * ((k : Int).tdiv 10 - 5) ≤ 25 := by
  have : ((List.range 100).all fun (k : Nat) => decide (0 ≤ ((k : Int).tmod 10 - 5) * ((k : Int).tmod 10 - 5) ∧ ((k : Int).tmod 10 - 5) * ((k : Int).tmod 10 - 5) ≤ 25 ∧ 0 ≤ ((k : Int).tdiv 10 - 5) * ((k : Int).tdiv 10 - 5) ∧ ((k : Int).tdiv 10 - 5) * ((k : Int).tdiv 10 - 5) ≤ 25)) = true := by decide +kernel
  intro k hk
  have h2 := List.all_eq_true.1 this k (List.mem_range.2 hk)
  exact of_decide_eq_true h2
theorem filter_none {n : Nat} {t : Nat → Bool} (h : ∀ k, k < n → t k = false) : upI ((List.range n).filter t) = [] := by
  have : (List.range n).filter t = [] := by
    rw [List.filter_eq_nil_iff]
    intro k hk
    simp [h k (List.mem_range.1 hk)]
  rw [this]; rfl
theorem filter_all {n : Nat} {t : Nat → Bool} (h : ∀ k, k < n → t k = true) : (upI ((List.range n).filter t)).length = n := by
  have : (List.range n).filter t = List.range n := by
    rw [List.filter_eq_self]
    intro k hk
    exact h k (List.mem_range.1 hk)
  rw [this, upI_len, List.length_range]
end Go.V
namespace Go.Proofs
open Go Go.V
set_option linter.unusedVariables false

theorem CellsOf.unL {F N : Store} {p : Nat} {l : List Ent} (h : CellsOf F p l) (hd : Disj F N) : CellsOf (F.un N) p l := by
  obtain ⟨ma, mi, bs1, c1, G, bs2, c2, ha, hi⟩ := h
  exact ⟨ma, mi, bs1, c1, G, bs2, c2, ⟨un_l hd ha.hp, un_l hd ha.ha, un_l hd ha.hi, ha.ne, fun g hg => ⟨un_l hd (ha.hg g hg).1, (ha.hg g hg).2⟩, ha.nd⟩, hi⟩
theorem CellsOf.nodup {F : Store} {p : Nat} {l : List Ent} (h : CellsOf F p l) : (l.map (·.1)).Nodup := by
  obtain ⟨_, _, _, _, _, _, _, _, hi⟩ := h
  exact hi.n1

theorem Grid.ok {L : List Ent} {f : Nat → Vc} {n : Nat} (h : Grid L f n) (hf : ∀ k, k < n → (f k).ok) : ∀ e ∈ L, e.2.ok := fun e he => by
  obtain ⟨k, hk, rfl⟩ := (h e).1 he
  exact hf k hk

def mixP (i k : Nat) : Vc := if k < i then p2 k else p1 k

theorem mixP_ok {i k : Nat} (hk : k < 100) : (mixP i k).ok := by
  unfold mixP
  split
  · exact p2_ok hk
  · exact p1_ok hk

set_option maxHeartbeats 4000000 in
theorem cellsGrid_law (l : List Act) (hl : l.length ≤ 140737488355328) (R : AV → Store → Prop) (h : ∀ st, R (bool true) st) : ACalls Try.prog 3 [lst 5 actC l] Store.empty R := by
  refine ACalls.of_awp (c := cfg 119) infoOK Try.func3 (by rfl) (by rfl) (by rfl) (by rfl) ?_
  refine AWp.seq (AWp.of_vc infoOK ?_)
  refine AWp.seq (AWp.of_vc infoOK ?_)
  refine cellsNew_spec _ (fun F p hc => ?_)
  refine AWp.seq (AWp.of_vc infoOK ?_)
  refine AWp.meetA (σ := List Ent) ⟨fun _ => [(0, .av (lst 5 actC l)), (3, .av (ptr p))], fun _ => [], fun L st' => CellsOf st' p L ∧ Grid L p1 100⟩ ?_ ?_
  · refine AWp.seq (AWp.of_vc infoOK ?_)
    refine AWp.block ?_
    refine AWp.loopA (σ := Nat × List Ent) ⟨fun s => [(0, .av (lst 5 actC l)), (3, .av (ptr p)), (4, .av (int (s.1 : Nat)))], fun _ => [], fun s st' => CellsOf st' p s.2 ∧ Grid s.2 p1 s.1 ∧ s.1 ≤ 100, fun s => 100 - s.1⟩ ?_ ?_
    · exact ⟨(0, []), trivial, ⟨hc, fun e => ⟨(fun h => (by cases h)), fun ⟨k, hk, _⟩ => absurd hk (Nat.not_lt_zero k)⟩, by omega⟩, ⟨LV.le_refl _, LV.le_refl _, LV.le_refl _, trivial⟩, trivial⟩
    rintro ⟨i, L⟩ st' ⟨hc', hg, hi⟩
    dsimp only at hc' hg hi ⊢
    refine AWp.of_vc infoOK ?_
    refine bcd (fun c1 => ?_) (fun c1 => ?_)
    rotate_left
    · have : i = 100 := by omega
      subst this
      exact ⟨L, ⟨hc', hg⟩, ⟨LV.le_refl _, LV.le_refl _, trivial⟩, trivial⟩
    have hi' : i < 100 := by omega
    have hb := p1_b hi'
    have hn := hg.len (CellsOf.nodup hc')
    refine ⟨by decide, ?_⟩
    refine ⟨⟨by omega, by omega⟩, ?_⟩
    refine ⟨by decide, ?_⟩
    refine ⟨⟨by omega, by omega⟩, ?_⟩
    refine ⟨⟨by omega, by omega⟩, ?_⟩
    refine cellsPut_spec hc' (by omega) (Grid.ok hg fun k hk => p1_ok (by omega)) (i : Int) (p1 i) (p1_ok hi') _ (fun a' ha' => ?_)
    refine ⟨⟨by omega, by omega⟩, ?_⟩
    refine ⟨(i + 1, _), ?_, ⟨ha', hg.put (fun k => by omega) (fun k => by by_cases hk : k = i <;> simp [hk]), by dsimp only; omega⟩, ⟨LV.le_refl _, LV.le_refl _, LV.le_refl _, trivial⟩, trivial⟩
    show 100 - (i + 1) < 100 - i
    omega
  clear hc F
  rintro L st ⟨hc, hg⟩
  dsimp only at hc hg ⊢
  refine AWp.meetA (σ := List Ent) ⟨fun _ => [(0, .av (lst 5 actC l)), (3, .av (ptr p))], fun _ => [], fun L st' => CellsOf st' p L ∧ Grid L p1 100⟩ ?_ ?_
  · refine AWp.seq (AWp.of_vc infoOK ?_)
    refine AWp.block ?_
    refine AWp.loop (σ := Nat) ⟨fun s => [(0, .av (lst 5 actC l)), (3, .av (ptr p)), (5, .av (int (s : Nat)))], fun _ => [], fun s st' => CellsOf st' p L ∧ s ≤ 5, fun s => 5 - s⟩ infoOK ?_ ?_
    · exact ⟨0, trivial, ⟨hc, by omega⟩, ⟨LV.le_refl _, LV.le_refl _, LV.le_refl _, trivial⟩, trivial⟩
    clear hc st
    rintro r st ⟨hc, hr⟩
    dsimp only at hc hr ⊢
    have hn := hg.len (CellsOf.nodup hc)
    refine bcd (fun c1 => ?_) (fun c1 => ?_)
    rotate_left
    · exact ⟨L, ⟨hc, hg⟩, ⟨LV.le_refl _, LV.le_refl _, trivial⟩, trivial⟩
    have hr' : r < 5 := by omega
    refine ⟨⟨by omega, by omega⟩, ?_⟩
    refine ⟨⟨by omega, by omega⟩, ?_⟩
    refine cellsNear_spec hc (by omega) (Grid.ok hg fun k hk => p1_ok hk) (q := (327680, 327680)) ⟨⟨by decide, by decide⟩, ⟨by decide, by decide⟩⟩ (r := (r : Int) * 65536 + 1) ⟨by omega, by omega⟩ _ (fun F N v ns q1 q2 q3 q4 => ?_)
    have hns := hg.near q4 (near1 r hr')
    have hc2 := CellsOf.unL q1 q2
    have hvi : Ints (F.un N) v ns := Ints.un q3
    generalize F.un N = st2 at *
    have hne : ns ≠ [] := fun e => by
      have := at_step (inC r) (show 55 < 100 by decide) (inC55 r hr')
      rw [← hns, e] at this
      cases this
    have hnl : ns.length = ((List.range 100).filter (inC r)).length := by rw [hns, upI_len]
    have hnl100 : ns.length ≤ 100 := by
      rw [hnl]
      exact Nat.le_trans (List.length_filter_le _ _) (by simp)
    rcases ints_cellsR hvi with ⟨_, e⟩ | ⟨b, cap, J, rfl, ho, h1, h2, h3⟩
    · exact absurd e hne
    refine AWp.loop (σ := Nat) ⟨fun i => [(0, .av (lst 5 actC l)), (3, .av (ptr p)), (5, .av (int (r : Nat))), (6, .av (.s (.slice (some ⟨b, 0, none⟩) ns.length cap))), (7, .av (int (((List.range i).filter (inC r)).length : Nat))), (8, .av (int (i : Nat)))], fun _ => [],
      fun i st' => st' = st2 ∧ i ≤ 100, fun i => 100 - i⟩ infoOK ?_ ?_
    · exact ⟨0, trivial, ⟨rfl, by omega⟩, ⟨LV.le_refl _, LV.le_refl _, LV.le_refl _, LV.le_refl _, LV.le_refl _, LV.le_refl _, trivial⟩, trivial⟩
    rintro i st' ⟨rfl, hi⟩
    refine bcd (fun c2 => ?_) (fun c2 => ?_)
    rotate_left
    · have hi2 : i = 100 := by omega
      subst hi2
      refine bcne (fun c3 => ?_) (fun c3 => ?_)
      · exact absurd (by rw [hnl]) c3
      refine ⟨⟨by omega, by omega⟩, ?_⟩
      refine ⟨r + 1, ?_, ⟨hc2, hr'⟩, ⟨LV.le_refl _, LV.le_refl _, LV.le_refl _, trivial⟩, trivial⟩
      show 5 - (r + 1) < 5 - r
      omega
    have hi' : i < 100 := by omega
    have hb := p1_b hi'
    have hpb := prod_b i hi'
    have hrr : (r : Int) * (r : Int) ≤ 25 ∧ 0 ≤ (r : Int) * (r : Int) := by
      have : (r : Int) * (r : Int) ≤ 5 * 5 := Int.mul_le_mul (by omega) (by omega) (by omega) (by decide)
      exact ⟨by omega, Int.mul_nonneg (by omega) (by omega)⟩
    refine ⟨by decide, ?_⟩
    refine ⟨⟨by omega, by omega⟩, ?_⟩
    refine ⟨by decide, ?_⟩
    refine ⟨⟨by omega, by omega⟩, ?_⟩
    refine ⟨⟨by omega, by omega⟩, ?_⟩
    refine ⟨⟨by omega, by omega⟩, ?_⟩
    refine ⟨⟨by omega, by omega⟩, ?_⟩
    refine ⟨⟨by omega, by omega⟩, ?_⟩
    refine ⟨⟨by omega, by omega⟩, ?_⟩
    have hcs := count_step (inC r) i
    have hca := count_le_all (inC r) (show i + 1 ≤ 100 by omega)
    refine bcase_intro (fun hin => ?_) (fun hin => ?_)
    · have hin : inC r i = true := hin
      rw [if_pos hin] at hcs
      have hat := at_step (inC r) hi' hin
      rw [← hns] at hat
      have hlt : ((List.range i).filter (inC r)).length < ns.length := by omega
      refine bcd (fun c3 => ?_) (fun c3 => ?_)
      · omega
      refine ⟨((List.range i).filter (inC r)).length, rfl, hlt, ?_⟩
      refine optK_intro (o := st'.obj b) _ ho ?_
      refine optK_intro (o := List.head? _) (int (i : Int)) (by
        rw [List.head?_drop, show 0 + ((List.range i).filter (inC r)).length * ti3.size = ((List.range i).filter (inC r)).length from by show 0 + _ * 1 = _; omega, List.getElem?_append_left (by simpa using hlt), List.getElem?_map, hat]; rfl) ?_
      refine bcne (fun c4 => ?_) (fun c4 => ?_)
      · exact absurd rfl c4
      refine ⟨⟨by omega, by omega⟩, ?_⟩
      refine ⟨⟨by omega, by omega⟩, ?_⟩
      refine ⟨i + 1, ?_, ⟨rfl, by omega⟩, ⟨LV.le_refl _, LV.le_refl _, LV.le_refl _, LV.le_refl _, ?_, LV.le_refl _, trivial⟩, trivial⟩
      · show 100 - (i + 1) < 100 - i
        omega
      · dsimp only
        rw [hcs]
        exact LV.le_refl _
    · have hin : inC r i = false := hin
      rw [hin] at hcs
      simp only [Bool.false_eq_true, if_false, Nat.add_zero] at hcs
      refine ⟨⟨by omega, by omega⟩, ?_⟩
      refine ⟨i + 1, ?_, ⟨rfl, by omega⟩, ⟨LV.le_refl _, LV.le_refl _, LV.le_refl _, LV.le_refl _, ?_, LV.le_refl _, trivial⟩, trivial⟩
      · show 100 - (i + 1) < 100 - i
        omega
      · dsimp only
        rw [hcs]
        exact LV.le_refl _
  clear hc hg L st
  rintro L st ⟨hc, hg⟩
  dsimp only at hc hg ⊢
  refine AWp.meetA (σ := List Ent) ⟨fun _ => [(0, .av (lst 5 actC l)), (3, .av (ptr p))], fun _ => [], fun L st' => CellsOf st' p L ∧ Grid L p2 100⟩ ?_ ?_
  · refine AWp.seq (AWp.of_vc infoOK ?_)
    refine AWp.block ?_
    refine AWp.loopA (σ := Nat × List Ent) ⟨fun s => [(0, .av (lst 5 actC l)), (3, .av (ptr p)), (11, .av (int (s.1 : Nat)))], fun _ => [], fun s st' => CellsOf st' p s.2 ∧ Grid s.2 (mixP s.1) 100 ∧ s.1 ≤ 100, fun s => 100 - s.1⟩ ?_ ?_
    · exact ⟨(0, L), trivial, ⟨hc, hg, by omega⟩, ⟨LV.le_refl _, LV.le_refl _, LV.le_refl _, trivial⟩, trivial⟩
    clear hc hg L
    rintro ⟨i, L⟩ st' ⟨hc', hg, hi⟩
    dsimp only at hc' hg hi ⊢
    refine AWp.of_vc infoOK ?_
    refine bcd (fun c1 => ?_) (fun c1 => ?_)
    rotate_left
    · have : i = 100 := by omega
      subst this
      refine ⟨L, ⟨hc', fun e => ?_⟩, ⟨LV.le_refl _, LV.le_refl _, trivial⟩, trivial⟩
      rw [hg e]
      constructor
      · rintro ⟨k, hk, rfl⟩; exact ⟨k, hk, by unfold mixP; rw [if_pos hk]⟩
      · rintro ⟨k, hk, rfl⟩; exact ⟨k, hk, by unfold mixP; rw [if_pos hk]⟩
    have hi' : i < 100 := by omega
    have hb := p1_b hi'
    have hn := hg.len (CellsOf.nodup hc')
    refine ⟨by decide, ?_⟩
    refine ⟨⟨by omega, by omega⟩, ?_⟩
    refine ⟨⟨by omega, by omega⟩, ?_⟩
    refine ⟨by decide, ?_⟩
    refine ⟨⟨by omega, by omega⟩, ?_⟩
    refine ⟨⟨by omega, by omega⟩, ?_⟩
    refine ⟨⟨by omega, by omega⟩, ?_⟩
    refine cellsPut_spec hc' (by omega) (Grid.ok hg fun k hk => mixP_ok hk) (i : Int) (p2 i) (p2_ok hi') _ (fun a' ha' => ?_)
    refine ⟨⟨by omega, by omega⟩, ?_⟩
    refine ⟨(i + 1, _), ?_, ⟨ha', hg.put (fun k => by omega) (fun k => ?_), by dsimp only; omega⟩, ⟨LV.le_refl _, LV.le_refl _, LV.le_refl _, trivial⟩, trivial⟩
    · show 100 - (i + 1) < 100 - i
      omega
    · unfold mixP
      by_cases hk : k = i
      · subst hk
        rw [if_pos (by omega), if_pos rfl]
      · rw [if_neg hk]
        by_cases hk2 : k < i
        · rw [if_pos (by omega), if_pos hk2]
        · rw [if_neg (by omega), if_neg hk2]
  clear hc hg L st
  rintro L st ⟨hc, hg⟩
  dsimp only at hc hg ⊢
  have hn := hg.len (CellsOf.nodup hc)
  have hok := Grid.ok hg fun k hk => p2_ok hk
  refine AWp.of_vc infoOK ?_
  refine cellsNear_spec hc (by omega) hok (q := (327680, 327680)) ⟨⟨by decide, by decide⟩, ⟨by decide, by decide⟩⟩ (r := 1310720) ⟨by decide, by decide⟩ _ (fun F N v ns q1 q2 q3 q4 => ?_)
  have hns := hg.near q4 (near2)
  have hns0 : ns = [] := by rw [hns]; exact filter_none fun _ _ => rfl
  have hc2 := CellsOf.unL q1 q2
  have hvi : Ints (F.un N) v ns := Ints.un q3
  generalize F.un N = st2 at *
  subst hns0
  clear hns q1 q2 q3 q4
  have hv0 : v = .s (.slice none 0 0) ∨ ∃ b cap, v = .s (.slice (some ⟨b, 0, none⟩) 0 cap) := by
    rcases ints_cellsR hvi with ⟨e, _⟩ | ⟨b, cap, J, rfl, _⟩
    · exact .inl e
    · exact .inr ⟨b, cap, rfl⟩
  have hlen : ∃ o c, v = .s (.slice o 0 c) := by
    rcases hv0 with e | ⟨b, cap, e⟩
    · exact ⟨_, _, e⟩
    · exact ⟨_, _, e⟩
  obtain ⟨o, c, rfl⟩ := hlen
  refine cellsNear_spec hc2 (by omega) hok (q := (-327680, -6225920)) ⟨⟨by decide, by decide⟩, ⟨by decide, by decide⟩⟩ (r := 6553600) ⟨by decide, by decide⟩ _ (fun F N v ns q1 q2 q3 q4 => ?_)
  have hns := hg.near q4 (near3)
  have hns0 : ns.length = 100 := by rw [hns]; exact filter_all fun _ _ => rfl
  have hc3 := CellsOf.unL q1 q2
  have hvi : Ints (F.un N) v ns := Ints.un q3
  generalize F.un N = st3 at *
  have hlen : ∃ o c, v = .s (.slice o ns.length c) := by
    rcases ints_cellsR hvi with ⟨e, e2⟩ | ⟨b, cap, J, rfl, _⟩
    · rw [e2] at hns0; cases hns0
    · exact ⟨_, _, rfl⟩
  obtain ⟨o2, c2, rfl⟩ := hlen
  rw [hns0]
  refine cellsCount_spec hc3 _ ?_
  rw [hn]
  exact cwakes_spec _ _ (ret (h _))
end Go.Proofs
namespace Go.Proofs.Ytlhjkalolohipaa
open Go Go.V Go.ChangeShapes Go.WideShapes Go.ChangeAt Go.RowKit
set_option linter.unusedVariables false

theorem own : ownKnob Try.prog.godebug = none := by kernel_rfl
theorem laid : laidOutB Try.prog = true := by kernel_rfl

theorem slice_cells {P : Program} {w : World} {r : Reach} {base : Nat} {t e : TypeId} {v : Value} (ht : P.underlying t = some (.slice e)) (h : Value.okWide P w r base t v) : v.cells.toList = [v] := by
  simp only [Value.okWide, ht] at h
  cases v <;> simp_all [Cell.okWide, Cell.ok, Value.cells]

set_option maxRecDepth 100000 in
theorem cellsGrid_lifted (os : Os) (started : os.Started) (H : Type) (enc : TypeId × Value → H) :
    ReturnsInHanded {} Try.checked os 3 .any (Rows.cellsGridSpec.pre6 enc Try.prog Try.f3 Rows.cellsGridRow.domain false) (Rows.cellsGridSpec.post enc Try.prog Try.f3 false true false false) := by
  refine returnsInHanded_of_change_sized (C := Try.checked) own started (by kernel_rfl) Try.func3
    (ChangeSpec.witness6 (enc := enc) (C := Try.checked) false ⟨#[], #[.slice none 0 0], []⟩ 8 (by kernel_rfl) (by kernel_rfl) (by kernel_rfl) (by kernel_rfl)) ?_
  intro W base args ds gs before hval0 hW hcnd hsz _
  have hval : ∀ (j : Nat) t v, Try.f3.params[j]? = some t → args[j]? = some v → Value.okWide Try.prog W .any base t v := hval0
  have hW' := hW
  obtain ⟨p, q, hA0, hV, rfl, hfz, hnd⟩ := hW
  have hA : DataW.TrodAll enc Try.prog W 0 (fun _ => true) true Try.f3.params.toList args.toList ds p := hA0
  rw [Try.params3] at hA hval
  obtain ⟨v, d, rfl, rfl, hd⟩ := trodAll_one hA
  obtain ⟨rfl, rfl⟩ := trodVars_none hV
  obtain ⟨fuel, hd0⟩ := hd
  have hw : ∀ n ∈ d.weights Try.prog 22, n ≤ reachBytes := fun n hn => by
    have h2 := List.all_eq_true.1 hsz n (DataW.weights_mem_each (j := 0) (t := 22) (d := d) (by rfl) (by rfl) n hn)
    simpa using h2
  obtain ⟨l, hl, hc⟩ := acts_codec.out enc W 0 true fuel _ _ hd0 hw
  have hv1 : v.cells.toList = [v] := slice_cells Try.underlying22 (hval 0 _ v rfl rfl)
  rw [hv1] at hc
  have hv : VRel W T0 (lst 5 actC l) v := (hc.2 0 _ v rfl rfl).1
  have hlt : ∀ x ∈ p, x.block < W.heap.size := fun x hx => hW'.lt x (by simpa using hx)
  clear hA0 hval0
  refine (calls_of_acalls Try.func3 rfl (by rfl) (R := fun r => r = bool true) (cellsGrid_law l hl.1 (fun r _ => r = bool true) (fun _ => rfl)) hv).mono fun e W' ⟨r, u, he, hr, ⟨T, hvr⟩, hb⟩ => ?_
  subst hr
  have hu : u = .bool true := VRel.eq_s hvr
  subst hu
  subst he
  refine ⟨_, rfl, post_of_old (pa := p) (pv := []) hW' (fun _ _ _ => trodAll_cons_mk (shut_bool Try.underlying4 _) trodAll_mk0) (fun sp hsp => ?_) (fun _ _ => rfl) rfl (Below.kept hb _) (Below.froz hb) (ok_one (by kernel_rfl) rfl (okWide_bool_mk Try.underlying4 _))⟩
  exact trodAll_mk1 (WideElems.Trod_stays laid (by kernel_rfl) (of_decide_eq_true (by kernel_rfl)) ⟨fuel, hd0⟩ (fun x hx => hb.same (hlt x hx)) (fun x hx => hsp x (by simpa using hx)))

theorem cellsGrid_proved : Rows.CellsGridSaid :=
  OpenClaim.holds_of_wide 3 Try.f3 rfl rfl rfl rfl rfl rfl rfl ⟨rfl, rfl, rfl, rfl, rfl⟩ rfl rfl rfl rfl rfl (by kernel_rfl) Try.func3 (by kernel_rfl)
    (of_decide_eq_true (by kernel_rfl)) (by unfold Func.isWrapper; first | (rw [if_pos (by decide +kernel)]; kernel_rfl) | (rw [if_neg (by decide +kernel)]; exact ⟨rfl, rfl⟩))
    (fun os started H enc _ => cellsGrid_lifted os started H enc)
#print axioms cellsGrid_proved
end Go.Proofs.Ytlhjkalolohipaa
