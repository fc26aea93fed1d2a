/- The ground on which laws of thronglaw26 are proved: contracts of functions and plain lemmas; no condition beyond the row's own. -/
import Derived.Test.YtimehecofabmjaaGreatVD
set_option linter.unusedSimpArgs false
set_option linter.unusedVariables false
/- What is read is what was laid: no program in sight. -/
namespace Go.V
set_option linter.unusedVariables false

theorem putZ_nat (v : Nat) : putZ (v : Int) = putL v := by
  unfold putZ
  split
  · rw [Int.toNat_natCast]
  · rw [putL, dif_neg (by omega)]

theorem lowB_byte (c : UInt8) : lowB (c.toNat : Int) = c := by
  unfold lowB
  have := c.toNat_lt
  have e : ((c.toNat : Int) % 256).toNat = c.toNat := by omega
  rw [e]
  simp

theorem byte_or (c : UInt8) (h : 128 ≤ c.toNat) (v : Nat) : lowB ((c.toNat % 128 + 128 * v : Nat) : Int) ||| 128 = c := by
  rw [← lowB_mod _ (by omega), Int.tmod_eq_emod_of_nonneg (by omega)]
  have e : (((c.toNat % 128 + 128 * v : Nat) : Int) % 128) = ((c.toNat % 128 : Nat) : Int) := by omega
  rw [e]
  have e2 : ∀ n : Nat, n < 256 → 128 ≤ n → lowB ((n % 128 : Nat) : Int) ||| 128 = UInt8.ofNat n := by decide +kernel
  rw [e2 c.toNat c.toNat_lt h]
  simp

theorem getGo_put : ∀ (b : List UInt8) (i : Nat) (n : Int) (m : Int) (k : Nat), getGo b i n = (m, k, 0) →
    ∃ v : Nat, m = n + v * 128 ^ i ∧ b = putL v ++ b.drop (k - i) ∧ i < k ∧ (0 < i → 0 < v) := by
  intro b
  induction b with
  | nil => intro i n m k h; simp [getGo] at h
  | cons c l ih =>
    intro i n m k h
    unfold getGo at h
    split at h
    · simp at h
    · rename_i hc
      split at h
      · rename_i h1
        simp only [Prod.mk.injEq, and_true] at h
        obtain ⟨rfl, rfl⟩ := h
        refine ⟨c.toNat, by rw [Nat.mod_eq_of_lt h1], ?_, by omega, fun hi => ?_⟩
        · rw [putL, dif_neg (by omega), lowB_byte]
          simp
        · omega
      · rename_i h1
        obtain ⟨v, rfl, hb, hk, hv⟩ := ih _ _ _ _ h
        have hv := hv (by omega)
        refine ⟨c.toNat % 128 + 128 * v, ?_, ?_, by omega, fun _ => by omega⟩
        · rw [Int.pow_succ]
          have e1 : (v : Int) * (128 ^ i * 128) = 128 * (v : Int) * 128 ^ i := by rw [Int.mul_comm (128 ^ i) 128, ← Int.mul_assoc, Int.mul_comm (v : Int) 128]
          rw [e1, Int.add_assoc, ← Int.add_mul]
          simp
        · rw [putL, dif_pos (by omega), byte_or c (by omega) v]
          have e : (c.toNat % 128 + 128 * v) / 128 = v := by omega
          rw [e, show k - i = (k - (i + 1)) + 1 by omega]
          show c :: l = c :: (putL v ++ l.drop (k - (i + 1)))
          rw [← hb]

theorem getNum_put {b : List UInt8} (h : (getNum b).2.2 = 0) : b = putZ (getNum b).1 ++ b.drop (getNum b).2.1 := by
  obtain ⟨v, h1, h2, _⟩ := getGo_put b 0 0 (getNum b).1 (getNum b).2.1 (Prod.ext rfl (Prod.ext rfl h))
  have e : (getNum b).1 = (v : Int) := by rw [h1]; simp
  rw [e, putZ_nat]
  exact h2

theorem num_put {s : Rd} {lo hi : Int} (h : (s.num lo hi).2.e = 0) : s.e = 0 ∧ s.b = putZ (s.num lo hi).1 ++ (s.num lo hi).2.b ∧ lo ≤ (s.num lo hi).1 ∧ (s.num lo hi).1 ≤ hi := by
  obtain ⟨h1, h2, h3, h4, h5, h6⟩ := got_e h
  have e1 : (s.num lo hi).1 = (getNum s.b).1 := h3
  have e2 : (s.num lo hi).2 = ⟨s.b.drop (getNum s.b).2.1, 0⟩ := h4
  rw [e1, e2]
  exact ⟨h1, getNum_put h2, h5, h6⟩

theorem zig_int {n : Int} (h : 0 ≤ n) : putZ n = intZ (zig n) := by
  unfold intZ zig
  by_cases h1 : n % 2 = 0
  · rw [if_pos h1, if_neg (by omega)]
    congr 1; omega
  · rw [if_neg h1, if_pos (by omega)]
    congr 1; omega

theorem int_put {s : Rd} {lo hi : Int} (h : (s.int lo hi).2.e = 0) : s.e = 0 ∧ s.b = intZ (s.int lo hi).1 ++ (s.int lo hi).2.b ∧ lo ≤ (s.int lo hi).1 ∧ (s.int lo hi).1 ≤ hi := by
  obtain ⟨h1, h2, h3, h4, h5, h6⟩ := got_e h
  have e1 : (s.int lo hi).1 = (getInt s.b).1 := h3
  have e2 : (s.int lo hi).2 = ⟨s.b.drop (getInt s.b).2.1, 0⟩ := h4
  rw [e1, e2]
  have h7 := getNum_put (b := s.b) h2
  have h8 := getNum_facts s.b
  refine ⟨h1, ?_, h5, h6⟩
  have e3 : (getInt s.b).1 = zig (getNum s.b).1 := rfl
  rw [e3, ← zig_int (by omega)]
  exact h7

theorem byte_put {s : Rd} (h : s.byte.2.e = 0) : s.e = 0 ∧ s.b = s.byte.1 :: s.byte.2.b := by
  obtain ⟨b, e⟩ := s
  unfold Rd.byte at *
  by_cases h1 : e = 0
  · subst h1
    cases b with
    | nil => simp at h
    | cons c l => exact ⟨rfl, rfl⟩
  · simp only [ne_eq, h1, not_false_eq_true, if_true] at h

theorem same_put : ∀ (l : List UInt8) (s : Rd), (s.same l).e = 0 → s.e = 0 ∧ s.b = l ++ (s.same l).b := by
  intro l
  induction l with
  | nil => intro s h; exact ⟨h, rfl⟩
  | cons c l ih =>
    intro s h
    obtain ⟨h1, h2⟩ := ih (s.byte.2.must (s.byte.1 == c)) h
    obtain ⟨h3, h4, h5⟩ := must_e h1
    obtain ⟨h6, h7⟩ := byte_put h3
    rw [h5] at h2
    have e : (s.same (c :: l)).b = ((s.byte.2.must (s.byte.1 == c)).same l).b := rfl
    refine ⟨h6, ?_⟩
    rw [e, h7, h5, h2, eq_of_beq h4]
    simp [h5]

theorem raw_put {s : Rd} (h : s.raw.2.e = 0) : s.e = 0 ∧ s.b = putZ s.raw.1.length ++ s.raw.1 ++ s.raw.2.b := by
  unfold Rd.raw at *
  by_cases h1 : s.e = 0
  · rw [if_neg (by simpa using h1)] at h ⊢
    simp only at h ⊢
    unfold Rd.take at *
    split at h
    · rename_i h2; exact absurd h h2
    · rename_i h2
      rw [if_neg h2]
      have h3 : (getRaw s.b).2.2 = 0 := by
        unfold Rd.fail at h2
        rw [if_pos h1] at h2
        simpa using h2
      refine ⟨h1, ?_⟩
      simp only
      have hf := getNum_facts s.b
      unfold getRaw at h3 ⊢
      by_cases g1 : (getNum s.b).2.2 ≠ 0
      · rw [if_pos g1] at h3; exact absurd h3 g1
      rw [if_neg g1] at h3 ⊢
      by_cases g2 : (getNum s.b).1 > 1048576
      · rw [if_pos g2] at h3; simp at h3
      rw [if_neg g2] at h3 ⊢
      by_cases g3 : (getNum s.b).1 > (s.b.length : Int) - (getNum s.b).2.1
      · rw [if_pos g3] at h3; simp at h3
      rw [if_neg g3]
      simp only
      have h4 := getNum_put (b := s.b) (by simpa using g1)
      have e1 : (((s.b.drop (getNum s.b).2.1).take (getNum s.b).1.toNat).length : Int) = (getNum s.b).1 := by
        rw [List.length_take, List.length_drop]; omega
      rw [e1, ← List.drop_drop, List.append_assoc, List.take_append_drop]
      exact h4
  · rw [if_pos (by simpa using h1)] at h
    exact absurd h h1

def rise : Int → List Int → Prop
  | _, [] => True
  | p, x :: xs => p < x ∧ x ≤ 1099511627776 ∧ rise x xs

theorem idsGo_put : ∀ (n : Nat) (s : Rd) (last : Int) (l : List Int), (Rd.idsGo n s last l).2.e = 0 →
    s.e = 0 ∧ ∃ m, (Rd.idsGo n s last l).1 = l ++ m ∧ m.length = n ∧ s.b = numsL m ++ (Rd.idsGo n s last l).2.b ∧ rise last m := by
  intro n
  induction n with
  | zero => intro s last l h; exact ⟨h, [], by simp [Rd.idsGo], rfl, by simp [Rd.idsGo, numsL], trivial⟩
  | succ n ih =>
    intro s last l h
    by_cases he : s.e = 0
    · rw [idsGo_ok he] at h ⊢
      obtain ⟨h1, m, h2, h3, h4, h5⟩ := ih _ _ _ h
      obtain ⟨_, h6, h7, h8⟩ := num_put h1
      refine ⟨he, (s.num (last + 1) 1099511627776).1 :: m, by rw [h2]; simp, by simp [h3], ?_, by omega, h8, h5⟩
      rw [h6, h4]
      simp [numsL]
    · rw [idsGo_bad he] at h
      exact absurd h he

theorem rise_units {m : List Int} (h : rise 0 m) (h1 : 1 ≤ m.length) (h2 : m.length ≤ 64) : unitsP m := by
  have key : ∀ (l : List Int) (p : Int), 0 ≤ p → rise p l → ∀ j, j < l.length → (p + 1 ≤ l.getD j 0 ∧ l.getD j 0 ≤ 1099511627776) ∧ (0 < j → l.getD (j - 1) 0 < l.getD j 0) := by
    intro l
    induction l with
    | nil => intro p _ _ j hj; simp at hj
    | cons x l ih =>
      intro p hp ⟨h1, h2, h3⟩ j hj
      cases j with
      | zero => simp; omega
      | succ j =>
        have := ih x (by omega) h3 j (by simpa using hj)
        refine ⟨by simp only [List.getD_cons_succ]; omega, fun _ => ?_⟩
        cases j with
        | zero => simp only [Nat.zero_add, Nat.sub_self, List.getD_cons_zero, List.getD_cons_succ]; omega
        | succ j =>
          have := this.2 (by omega)
          simpa using this
  exact ⟨⟨h1, h2⟩, fun j hj => by have := key m 0 (by omega) h j hj; exact ⟨by omega, this.2⟩⟩

theorem ids_put {s : Rd} (h : s.ids.2.e = 0) : s.e = 0 ∧ s.b = idsL s.ids.1 ++ s.ids.2.b ∧ unitsP s.ids.1 := by
  unfold Rd.ids at *
  obtain ⟨h1, m, h2, h3, h4, h5⟩ := idsGo_put _ _ _ _ h
  obtain ⟨h6, h7, h8, h9⟩ := num_put h1
  rw [h2, List.nil_append]
  have e : (m.length : Int) = (s.num 1 64).1 := by rw [h3]; omega
  refine ⟨h6, ?_, rise_units h5 (by omega) (by omega)⟩
  unfold idsL
  rw [e, List.append_assoc, ← h4]
  exact h7

theorem tail_put {s : Rd} {c : Cmd} (hc : c = cmd0 c.P c.S c.K) (hk : 1 ≤ c.K ∧ c.K ≤ 7) (h : (s.tail c).2.e = 0) :
    s.e = 0 ∧ s.b = tailL (s.tail c).1 ++ (s.tail c).2.b ∧ (s.tail c).1.okP ∧ (s.tail c).1.only = (s.tail c).1 ∧ (s.tail c).1.P = c.P ∧ (s.tail c).1.S = c.S ∧ (s.tail c).1.K = c.K := by
  rw [hc] at h ⊢
  generalize c.P = P at *
  generalize c.S = S at *
  generalize c.K = K at *
  unfold Rd.tail cmd0 at *
  simp only at h ⊢
  by_cases k1 : K = 1
  · subst k1
    simp only [if_true] at h ⊢
    obtain ⟨h1, h2, h3, h4⟩ := int_put h
    obtain ⟨h5, h6, h7, h8⟩ := int_put h1
    obtain ⟨h9, h10, h11, h12⟩ := num_put h5
    refine ⟨h9, ?_, ?_, ?_, by trivial, by trivial, by trivial⟩
    · unfold tailL; simp only [if_true]; rw [h10, h6, h2]; simp
    · rw [Cmd.ok1 rfl]; unfold placeP; exact ⟨⟨h11, h12⟩, ⟨h7, h8⟩, ⟨h3, h4⟩⟩
    · rw [Cmd.only1 rfl]
  rw [if_neg k1] at h ⊢
  by_cases k2 : K = 2
  · subst k2
    simp only [if_true] at h ⊢
    obtain ⟨h1, h2, h3, h4⟩ := num_put h
    obtain ⟨h5, h6, h7⟩ := ids_put h1
    refine ⟨h5, ?_, ?_, ?_, by trivial, by trivial, by trivial⟩
    · unfold tailL; simp only [if_true]; rw [h6, h2]; simp
    · rw [Cmd.ok2 rfl]; exact ⟨h7, h3, h4⟩
    · rw [Cmd.only2 rfl]
  rw [if_neg k2] at h ⊢
  by_cases k3 : K = 3
  · subst k3
    simp only [if_true] at h ⊢
    obtain ⟨h5, h6, h7⟩ := ids_put h
    refine ⟨h5, ?_, ?_, ?_, by trivial, by trivial, by trivial⟩
    · unfold tailL; simp only [if_true]; rw [h6]; simp
    · rw [Cmd.ok3 rfl]; exact h7
    · rw [Cmd.only3 rfl]
  rw [if_neg k3] at h ⊢
  by_cases k4 : K = 4
  · subst k4
    simp only [if_true] at h ⊢
    obtain ⟨h1, h2, h3, h4⟩ := num_put h
    obtain ⟨h5, h6, h7, h8⟩ := num_put h1
    obtain ⟨h9, h10, h11, h12⟩ := num_put h5
    refine ⟨h9, ?_, ?_, ?_, by trivial, by trivial, by trivial⟩
    · unfold tailL; simp only [if_true]; rw [h10, h6, h2]; simp
    · rw [Cmd.ok4 rfl]; exact ⟨⟨h11, h12⟩, ⟨h7, h8⟩, ⟨h3, h4⟩⟩
    · rw [Cmd.only4 rfl]
  rw [if_neg k4] at h ⊢
  by_cases k5 : K = 5
  · subst k5
    simp only [if_true] at h ⊢
    obtain ⟨h9, h10, h11, h12⟩ := num_put h
    refine ⟨h9, ?_, ?_, ?_, by trivial, by trivial, by trivial⟩
    · unfold tailL; simp only [if_true]; rw [h10]; simp
    · rw [Cmd.ok5 rfl]; exact ⟨h11, h12⟩
    · rw [Cmd.only5 rfl]
  rw [if_neg k5] at h ⊢
  by_cases k6 : K = 6
  · subst k6
    simp only [if_true] at h ⊢
    obtain ⟨h1, h2, h3, h4⟩ := num_put h
    obtain ⟨h5, h6, h7⟩ := ids_put h1
    refine ⟨h5, ?_, ?_, ?_, by trivial, by trivial, by trivial⟩
    · unfold tailL; simp only [if_true]; rw [h6, h2]; simp
    · rw [Cmd.ok6 rfl]; exact ⟨h7, h3, h4⟩
    · rw [Cmd.only6 rfl]
  rw [if_neg k6] at h ⊢
  have k7 : K = 7 := by omega
  subst k7
  simp only [if_true] at h ⊢
  obtain ⟨h5, h6, h7, h8⟩ := num_put h
  obtain ⟨h9, h10, h11, h12⟩ := num_put h5
  refine ⟨h9, ?_, ?_, ?_, by trivial, by trivial, by trivial⟩
  · unfold tailL; simp only [if_true]; rw [h10, h6]; simp
  · rw [Cmd.ok7 rfl]; exact ⟨⟨h11, h12⟩, ⟨h7, h8⟩⟩
  · rw [Cmd.only7 rfl]

theorem tail_e {s : Rd} {c : Cmd} (h : (s.tail c).2.e = 0) : s.e = 0 := by
  unfold Rd.tail at h
  repeat' split at h
  all_goals simp only at h
  · exact (num_put (int_put (int_put h).1).1).1
  · exact (ids_put (num_put h).1).1
  · exact (ids_put h).1
  · exact (num_put (num_put (num_put h).1).1).1
  · exact (num_put h).1
  · exact (ids_put (num_put h).1).1
  · exact (num_put (num_put h).1).1
  · exact h

theorem cmd_put {s : Rd} (h : s.cmd.2.e = 0) : s.e = 0 ∧ s.b = cmdL s.cmd.1 ++ s.cmd.2.b ∧ cmdP s.cmd.1 := by
  unfold Rd.cmd at *
  simp only at h ⊢
  have hq := tail_e h
  obtain ⟨h1, h2, h3, h4⟩ := num_put hq
  obtain ⟨h5, h6, h7, h8⟩ := num_put h1
  obtain ⟨h9, h10, h11, h12⟩ := num_put h5
  obtain ⟨_, h14, h15, h16, h17, h18, h19⟩ := tail_put (c := cmd0 ((s.num 1 7).2.num 1 8).1 (((s.num 1 7).2.num 1 8).2.num 0 1099511627776).1 (s.num 1 7).1) rfl ⟨h11, h12⟩ h
  refine ⟨h9, ?_, h15, by rw [h17]; exact ⟨h7, h8⟩, by rw [h18]; exact ⟨h3, h4⟩, h16⟩
  unfold cmdL
  rw [h17, h18, h19, List.append_assoc, ← h14, List.append_assoc, List.append_assoc]
  show s.b = putZ (s.num 1 7).1 ++ (putZ ((s.num 1 7).2.num 1 8).1 ++ (putZ (((s.num 1 7).2.num 1 8).2.num 0 1099511627776).1 ++ (((s.num 1 7).2.num 1 8).2.num 0 1099511627776).2.b))
  rw [← h2, ← h6, ← h10]

theorem tilesGo_put : ∀ (n : Nat) (s : Rd) (l : List UInt8), (Rd.tilesGo n s l).2.e = 0 →
    s.e = 0 ∧ ∃ m, (Rd.tilesGo n s l).1 = l ++ m ∧ m.length = n ∧ s.b = m ++ (Rd.tilesGo n s l).2.b ∧ ∀ t ∈ m, t.toNat ≤ 5 := by
  intro n
  induction n with
  | zero => intro s l h; exact ⟨h, [], by simp [Rd.tilesGo], rfl, by simp [Rd.tilesGo], fun t ht => by cases ht⟩
  | succ n ih =>
    intro s l h
    by_cases he : s.e = 0
    · rw [tilesGo_ok he] at h ⊢
      obtain ⟨h1, m, h2, h3, h4, h5⟩ := ih _ _ h
      obtain ⟨h6, h7, h8⟩ := must_e h1
      obtain ⟨_, h9⟩ := byte_put h6
      refine ⟨he, s.byte.1 :: m, by rw [h2]; simp, by simp [h3], ?_, fun t ht => ?_⟩
      · rw [h8] at h4
        rw [h9, h4, h8]; rfl
      · rcases List.mem_cons.1 ht with rfl | ht
        · simpa using h7
        · exact h5 t ht
    · rw [tilesGo_bad he] at h
      exact absurd h he

theorem fin_put {s : Rd} (h : s.fin.e = 0) : s.e = 0 ∧ s.b = [] ∧ s.fin = s := by
  obtain ⟨h1, h2, h3⟩ := must_e h
  exact ⟨h1, List.eq_nil_of_length_eq_zero (by simpa using h2), h3⟩

theorem take_front {a b : List UInt8} {n : Nat} (h : n = a.length) : (a ++ b).take n = a := by rw [h, List.take_left]

theorem mapParse_put {b : List UInt8} (h : (mapParse b).2 = 0) : b = gndL (mapParse b).1 ∧ gndP (mapParse b).1 := by
  unfold mapParse at *
  by_cases he : (mapSum b).e = 0
  · rw [if_neg (by simpa using he)]
    simp only
    unfold mapSum at he
    obtain ⟨h1, h2, _⟩ := fin_put he
    obtain ⟨h3, h4⟩ := same_put _ _ h1
    rw [h2, List.append_nil] at h4
    unfold mapTiles at h3
    obtain ⟨h5, m, h6, h7, h8, h9⟩ := tilesGo_put _ _ _ h3
    have hT : (mapTiles b).1 = m := by unfold mapTiles; rw [h6]; rfl
    have hR : (Rd.tilesGo ((mapHead b).1 * (mapSide b).1).toNat (mapSide b).2 []).2 = (mapTiles b).2 := rfl
    rw [hR] at h8
    obtain ⟨g1, g2, g3, g4⟩ := num_put h5
    obtain ⟨g5, g6, g7, g8⟩ := num_put g1
    obtain ⟨g9, g10⟩ := same_put _ _ g5
    have hb : b = signL ⟨(mapHead b).1, (mapSide b).1, m⟩ ++ (mapTiles b).2.b := by
      have e1 : b = [84, 71] ++ (Rd.same ⟨b, 0⟩ [84, 71]).b := g10
      have e2 : (Rd.same ⟨b, 0⟩ [84, 71]).b = putZ (mapHead b).1 ++ (mapHead b).2.b := g6
      have e3 : (mapHead b).2.b = putZ (mapSide b).1 ++ (mapSide b).2.b := g2
      unfold signL
      simp only
      rw [List.append_assoc, List.append_assoc, List.append_assoc, ← h8, ← e3, ← e2, ← e1]
    have hlen : b.length - (mapTiles b).2.b.length = (signL ⟨(mapHead b).1, (mapSide b).1, m⟩).length := by
      have := congrArg List.length hb
      rw [List.length_append] at this
      omega
    have htk : b.take (b.length - (mapTiles b).2.b.length) = signL ⟨(mapHead b).1, (mapSide b).1, m⟩ := by
      rw [hlen]
      have e := congrArg (List.take (signL ⟨(mapHead b).1, (mapSide b).1, m⟩).length) hb
      rw [List.take_left] at e
      exact e
    rw [htk] at h4
    rw [hT]
    have w1 : 1 ≤ (mapHead b).1 ∧ (mapHead b).1 ≤ 128 := ⟨g7, g8⟩
    have w2 : 1 ≤ (mapSide b).1 ∧ (mapSide b).1 ≤ 128 := ⟨g3, g4⟩
    have := side_mul w1 w2
    refine ⟨?_, w1, w2, by simp only; omega, h9⟩
    unfold gndL
    rw [← h4]
    exact hb
  · rw [if_pos (by simpa using he)] at h
    dsimp only at h
    exact absurd h he

theorem cmdsGo_put (pl : Int) : ∀ (n : Nat) (s : Rd) (l : List Cmd), (Rd.cmdsGo pl n s l).2.e = 0 →
    s.e = 0 ∧ ∃ m, (Rd.cmdsGo pl n s l).1 = l ++ m ∧ m.length = n ∧ s.b = m.flatMap cmdL ++ (Rd.cmdsGo pl n s l).2.b ∧
      ∀ j, (h : j < m.length) → (cmdP m[j] ∧ m[j].P ≤ pl) ∧ ((h2 : 0 < j) → afterP (m[j - 1]'(by omega)) m[j]) ∧ (j = 0 → ∀ d, l.getLast? = some d → afterP d m[j]) := by
  intro n
  induction n with
  | zero => intro s l h; exact ⟨h, [], by simp [Rd.cmdsGo], rfl, by simp [Rd.cmdsGo], fun j hj => by simp at hj⟩
  | succ n ih =>
    intro s l h
    by_cases he : s.e = 0
    · rw [cmdsGo_ok he] at h ⊢
      obtain ⟨h1, m, h2, h3, h4, h5⟩ := ih _ _ h
      obtain ⟨h6, h7, h8⟩ := must_e h1
      obtain ⟨_, h9, h10⟩ := cmd_put h6
      rw [h8] at h4
      have hn : s.cmd.1.P ≤ pl ∧ ∀ d, l.getLast? = some d → afterP d s.cmd.1 := by
        unfold nextB at h7
        rw [Bool.and_eq_true] at h7
        refine ⟨of_decide_eq_true h7.1, fun d hd => ?_⟩
        have := h7.2
        rw [hd] at this
        exact of_decide_eq_true this
      refine ⟨he, s.cmd.1 :: m, by rw [h2]; simp, by simp [h3], ?_, fun j hj => ?_⟩
      · rw [h9, h4, h8]; simp
      · cases j with
        | zero => exact ⟨⟨h10, hn.1⟩, fun h => by omega, fun _ d hd => hn.2 d hd⟩
        | succ j =>
          have h11 := h5 j (by simpa using hj)
          refine ⟨h11.1, fun _ => ?_, fun h => by omega⟩
          cases j with
          | zero => exact h11.2.2 rfl s.cmd.1 (by simp)
          | succ j => exact h11.2.1 (by omega)
    · rw [cmdsGo_bad he] at h
      exact absurd h he

theorem bytesGo_put : ∀ (n : Nat) (s : Rd) (l : List UInt8), (Rd.bytesGo n s l).2.e = 0 → s.e = 0 ∧ ∃ m, (Rd.bytesGo n s l).1 = l ++ m ∧ m.length = n ∧ s.b = m ++ (Rd.bytesGo n s l).2.b := by
  intro n
  induction n with
  | zero => intro s l h; exact ⟨h, [], by simp [Rd.bytesGo], rfl, by simp [Rd.bytesGo]⟩
  | succ n ih =>
    intro s l h
    obtain ⟨h1, m, h2, h3, h4⟩ := ih _ _ h
    obtain ⟨h5, h6⟩ := byte_put h1
    refine ⟨h5, s.byte.1 :: m, ?_, by simp [h3], ?_⟩
    · have e : (Rd.bytesGo (n + 1) s l).1 = (Rd.bytesGo n s.byte.2 (l ++ [s.byte.1])).1 := rfl
      rw [e, h2]; simp
    · have e : (Rd.bytesGo (n + 1) s l).2 = (Rd.bytesGo n s.byte.2 (l ++ [s.byte.1])).2 := rfl
      rw [e, h6, h4]; simp
theorem eight_leN (l : List UInt8) (h : l.length = 8) : eightL (leN l) = l := by
  have key : ∀ (l : List UInt8) (i : Nat) (hi : i < l.length), lowB (leN l / 256 ^ i) = l[i] := by
    intro l
    induction l with
    | nil => intro i hi; simp at hi
    | cons d l ih =>
      intro i hi
      have e : leN (d :: l) = (d.toNat : Int) + 256 * leN l := rfl
      have hd := d.toNat_lt
      cases i with
      | zero =>
        rw [Int.pow_zero, Int.ediv_one, e]
        have : lowB ((d.toNat : Int) + 256 * leN l) = lowB (d.toNat : Int) := by
          unfold lowB
          congr 2
          omega
        rw [this, lowB_byte]; rfl
      | succ i =>
        have := ih i (by simpa using hi)
        rw [List.getElem_cons_succ, ← this, e, Int.pow_succ, Int.mul_comm (256 ^ i) 256, ← Int.ediv_ediv_of_nonneg (by decide)]
        congr 2
        omega
  apply List.ext_getElem (by rw [eightL_len, h])
  intro i h1 h2
  rw [← key l i h2]
  simp [eightL]

theorem frame_put {pl sum : Int} {s : Rd} {turn : Int} (h : (frRd pl sum s).e = 0) :
    s.e = 0 ∧ frSum pl sum s = fnvSum sum (frBody (frFrm pl s turn)) ∧ s.b = frBody (frFrm pl s turn) ++ eightL (frSum pl sum s) ++ (frRd pl sum s).b ∧ frmP pl (frFrm pl s turn).C ∧
      0 ≤ (frFrm pl s turn).hash ∧ (frFrm pl s turn).hash ≤ 18446744073709551615 := by
  unfold frRd at h
  obtain ⟨h1, h2⟩ := same_put _ _ h
  unfold frHash at h1
  obtain ⟨h3, m, h4, h5, h6⟩ := bytesGo_put _ _ _ h1
  have hm : (frHash pl s).1 = m := by unfold frHash; rw [h4]; rfl
  have hH : (Rd.bytesGo 8 (frCmds pl s).2 []).2 = (frHash pl s).2 := rfl
  rw [hH] at h6
  unfold frCmds at h3
  obtain ⟨h7, c, h8, h9, h10, h11⟩ := cmdsGo_put pl _ _ _ h3
  have hc : (frCmds pl s).1 = c := by unfold frCmds; rw [h8]; rfl
  have hC : (Rd.cmdsGo pl (s.num 0 512).1.toNat (s.num 0 512).2 []).2 = (frCmds pl s).2 := rfl
  rw [hC] at h10
  obtain ⟨h12, h13, h14, h15⟩ := num_put h7
  have hcl : (c.length : Int) = (s.num 0 512).1 := by rw [h9]; omega
  have hbody : frBody (frFrm pl s turn) = putZ c.length ++ c.flatMap cmdL ++ m := by
    unfold frBody frFrm
    simp only
    rw [hc, hm, eight_leN m h5]
  have hb : s.b = frBody (frFrm pl s turn) ++ (frHash pl s).2.b := by
    rw [hbody, hcl, List.append_assoc, List.append_assoc, ← h6, ← h10]
    exact h13
  have hS : frSum pl sum s = fnvSum sum (frBody (frFrm pl s turn)) := by
    have e := congrArg List.length hb
    rw [List.length_append] at e
    have e2 : s.b.length - (frHash pl s).2.b.length = (frBody (frFrm pl s turn)).length := by omega
    have e3 : s.b.take (frBody (frFrm pl s turn)).length = frBody (frFrm pl s turn) := by
      have e4 := congrArg (List.take (frBody (frFrm pl s turn)).length) hb
      rw [List.take_left] at e4
      exact e4
    unfold frSum
    rw [e2, e3]
  refine ⟨h12, hS, ?_, ⟨by show (frCmds pl s).1.length ≤ 512; rw [hc]; omega, ?_⟩, ?_⟩
  · have e : (frRd pl sum s).b = ((frHash pl s).2.same (eightL (frSum pl sum s))).b := rfl
    rw [e, List.append_assoc, ← h2]
    exact hb
  · have e : (frFrm pl s turn).C = c := hc
    rw [e]
    exact fun j hj => ⟨(h11 j hj).1, fun h => (h11 j hj).2.1 h⟩
  · have e : (frFrm pl s turn).hash = leN m := by unfold frFrm; rw [hm]
    rw [e]
    have := leN_bd m
    rw [h5] at this
    omega

def frsOK (pl : Int) (l : List Frm) : Prop := ∀ j, (h : j < l.length) → (l[j].turn = j ∧ frmP pl l[j].C) ∧ 0 ≤ l[j].hash ∧ l[j].hash ≤ 18446744073709551615

theorem frsOK_snoc {pl : Int} {l : List Frm} {f : Frm} (h : frsOK pl l) (hf : (f.turn = l.length ∧ frmP pl f.C) ∧ 0 ≤ f.hash ∧ f.hash ≤ 18446744073709551615) : frsOK pl (l ++ [f]) := by
  intro j hj
  by_cases hl : j < l.length
  · have e : (l ++ [f])[j] = l[j] := List.getElem_append_left hl
    rw [e]; exact h j hl
  · have hj2 : j = l.length := by simp at hj; omega
    subst hj2
    have e : (l ++ [f])[l.length] = f := by simp
    rw [e]; exact hf

theorem framesGo_put (pl : Int) (hd b : List UInt8) : ∀ (n : Nat) (s : Rd) (sum : Int) (l : List Frm), s.e = 0 → l.length + n = 4097 → l.length ≤ 4096 → b = l.foldl frStep hd ++ s.b → sum = fnvSum fnvStart (l.foldl frStep hd) → frsOK pl l →
    frsOK pl (framesGo pl n s sum l).1 ∧ (framesGo pl n s sum l).1.length ≤ 4096 ∧ ∃ rest, b = (framesGo pl n s sum l).1.foldl frStep hd ++ rest ∧ ((framesGo pl n s sum l).2.e = 0 ↔ rest = []) := by
  intro n
  induction n with
  | zero => intro s sum l _ h1 h2; omega
  | succ n ih =>
    intro s sum l he h1 h2 hb hsum hl
    rw [framesGo]
    by_cases g1 : s.b.length = 0
    · rw [if_pos g1]
      have : s.b = [] := List.eq_nil_of_length_eq_zero g1
      exact ⟨hl, h2, s.b, hb, by simp [he, this]⟩
    rw [if_neg g1]
    by_cases g2 : l.length < 4096
    · have hm : s.must (decide (l.length < 4096)) = s := by unfold Rd.must; simp [g2]
      rw [hm, if_neg (by simpa using he)]
      by_cases g3 : (frRd pl sum s).e = 0
      · rw [if_neg (by simpa using g3)]
        obtain ⟨_, f1, f2, f3, f4, f5⟩ := frame_put (turn := (l.length : Int)) g3
        have hS : frSum pl sum s = fnvSum fnvStart (l.foldl frStep hd ++ frBody (frFrm pl s l.length)) := by rw [f1, hsum, fnvSum_app]
        have hfold : (l ++ [frFrm pl s l.length]).foldl frStep hd = (l.foldl frStep hd ++ frBody (frFrm pl s l.length)) ++ eightL (frSum pl sum s) := by
          rw [List.foldl_append, hS]; rfl
        refine ih _ _ _ g3 (by simp; omega) (by simp; omega) ?_ ?_ (frsOK_snoc hl ⟨⟨rfl, f3⟩, f4, f5⟩)
        · rw [hfold, hb, f2]
          simp only [List.append_assoc]
        · rw [hfold, fnvSum_app, ← hS]
          rfl
      · rw [if_pos (by simpa using g3)]
        refine ⟨hl, h2, s.b, hb, ?_⟩
        simp only
        constructor
        · intro h; exact absurd h g3
        · intro h; rw [h] at g1; exact absurd rfl g1
    · have hm : (s.must (decide (l.length < 4096))).e = 1 := by unfold Rd.must Rd.fail; simp [g2, he]
      rw [if_pos (by rw [hm]; decide)]
      refine ⟨hl, h2, s.b, hb, ?_⟩
      simp only
      constructor
      · intro h; rw [hm] at h; exact absurd h (by decide)
      · intro h; rw [h] at g1; exact absurd rfl g1

set_option maxRecDepth 20000 in
theorem repParse_put (b : List UInt8) : ((repParse b).1 = rep0 ∧ (repParse b).2 ≠ 0) ∨
    (repP (repParse b).1 ∧ (∀ f ∈ (repParse b).1.F, 0 ≤ f.hash ∧ f.hash ≤ 18446744073709551615) ∧ ∃ rest, b = repL (repParse b).1 ++ rest ∧ ((repParse b).2 = 0 ↔ rest = [])) := by
  unfold repParse
  by_cases h0 : b.length > 1048576
  · rw [if_pos h0]; exact .inl ⟨rfl, by decide⟩
  rw [if_neg h0]
  by_cases h1 : (rpGnd b).2.e = 0
  · rw [if_neg (by simpa using h1)]
    right
    have hraw : (rpRaw b).2.e = 0 := by
      by_cases hr : (rpRaw b).2.e = 0
      · exact hr
      · unfold rpGnd at h1; rw [if_neg hr] at h1; exact h1
    have hgE : rpGnd b = ((mapParse (rpRaw b).1).1, (rpRaw b).2.must (decide ((mapParse (rpRaw b).1).2 = 0))) := by unfold rpGnd; rw [if_pos hraw]
    rw [hgE] at h1
    dsimp only at h1
    obtain ⟨_, h2, h3⟩ := must_e h1
    have hg : ∀ (p : Gnd × Rd) (x : Gnd) (y : Rd), p = (x, y) → p.1 = x ∧ p.2 = y := by intro p x y h; rw [h]; exact ⟨rfl, rfl⟩
    obtain ⟨hg1, hg2'⟩ := hg _ _ _ hgE
    have hg2 : (rpGnd b).2 = (rpRaw b).2 := hg2'.trans h3
    obtain ⟨m1, m2⟩ := mapParse_put (of_decide_eq_true h2)
    rw [← hg1] at m1 m2
    obtain ⟨r1, r2⟩ := raw_put (s := (rpHead b).2) hraw
    have r2 : (rpHead b).2.b = putZ (rpRaw b).1.length ++ (rpRaw b).1 ++ (rpRaw b).2.b := r2
    obtain ⟨n1, n2, n3, n4⟩ := num_put (s := Rd.same ⟨b, 0⟩ [84, 82]) (lo := 1) (hi := 8) r1
    have n2 : (Rd.same ⟨b, 0⟩ [84, 82]).b = putZ (rpHead b).1 ++ (rpHead b).2.b := n2
    have n3 : 1 ≤ (rpHead b).1 := n3
    have n4 : (rpHead b).1 ≤ 8 := n4
    obtain ⟨_, q1⟩ := same_put _ _ n1
    have q1 : b = [84, 82] ++ (Rd.same ⟨b, 0⟩ [84, 82]).b := q1
    have hb : b = headL ⟨(rpHead b).1, (rpGnd b).1, []⟩ ++ (rpGnd b).2.b := by
      unfold headL
      simp only
      rw [← m1, hg2, List.append_assoc, List.append_assoc, ← r2, ← n2, ← q1]
    have hlen : b.length - (rpGnd b).2.b.length = (headL ⟨(rpHead b).1, (rpGnd b).1, []⟩).length := by
      have := congrArg List.length hb
      rw [List.length_append] at this
      omega
    have htk : b.take (b.length - (rpGnd b).2.b.length) = headL ⟨(rpHead b).1, (rpGnd b).1, []⟩ := by
      rw [hlen]
      have e := congrArg (List.take (headL ⟨(rpHead b).1, (rpGnd b).1, []⟩).length) hb
      rw [List.take_left] at e
      exact e
    obtain ⟨f1, f2, rest, f3, f4⟩ := framesGo_put (rpHead b).1 (headL ⟨(rpHead b).1, (rpGnd b).1, []⟩) b 4097 (rpGnd b).2 (fnvSum fnvStart (b.take (b.length - (rpGnd b).2.b.length))) [] (by rw [hg2]; exact hraw) (by simp) (by simp) hb (by rw [htk]; rfl) (fun j hj => by simp at hj)
    have hF : framesGo (rpHead b).1 4097 (rpGnd b).2 (fnvSum fnvStart (b.take (b.length - (rpGnd b).2.b.length))) [] = rpFrames b := by rw [rpFrames]
    rw [hF] at f1 f2 f3 f4
    refine ⟨⟨⟨n3, n4⟩, m2, f2, fun j hj => (f1 j hj).1⟩, fun f hf => ?_, rest, ?_, f4⟩
    · obtain ⟨j, hj, rfl⟩ := List.getElem_of_mem hf
      exact (f1 j hj).2
    · exact f3
  · rw [if_pos (by simpa using h1)]; exact .inl ⟨rfl, h1⟩

theorem repP_fits {r : Rep} (h : repP r) : r.fits := by
  obtain ⟨h1, h2, h3, h4⟩ := h
  have hs := side_mul h2.1 h2.2.1
  refine ⟨by unfold Gnd.fits; have := h2.2.2.1; omega, by omega, fun f hf => ?_⟩
  obtain ⟨j, hj, rfl⟩ := List.getElem_of_mem hf
  have hp := (h4 j hj).2
  refine ⟨by have := hp.1; omega, fun c hc => ?_⟩
  have := (cmdP_nums (frmP_cmd hp c hc)).2.2.2.2.2.2.2.2.2.1
  unfold Cmd.fits
  omega
end Go.V
/- What was laid is read: no program in sight. -/
namespace Go.V
set_option linter.unusedVariables false

theorem lowB_nat (v : Nat) : (lowB (v : Int)).toNat = v % 256 := by
  unfold lowB
  rw [UInt8.toNat_ofNat']
  omega

theorem or128_nat (v : Nat) : (lowB (v : Int) ||| 128).toNat = v % 128 + 128 := by
  have e : ∀ m : Nat, m < 256 → (UInt8.ofNat m ||| 128).toNat = m % 128 + 128 := by decide +kernel
  have h := e (v % 256) (by omega)
  have h2 : lowB (v : Int) = UInt8.ofNat (v % 256) := by unfold lowB; congr 1
  rw [h2, h]; omega

theorem getGo_ok (rest : List UInt8) : ∀ (v i : Nat) (n : Int), i ≤ 8 → v < 128 ^ (9 - i) → (0 < i → 0 < v) → getGo (putL v ++ rest) i n = (n + v * 128 ^ i, i + (putL v).length, 0) := by
  intro v
  induction v using Nat.strongRecOn with
  | _ v ih =>
    intro i n hi hv hp
    rw [putL]
    by_cases h : 128 ≤ v
    · rw [dif_pos h]
      have h7 : i ≤ 7 := by
        by_cases h8 : i = 8
        · subst h8; simp at hv; omega
        · omega
      show getGo ((lowB (v : Int) ||| 128) :: (putL (v / 128) ++ rest)) i n = _
      unfold getGo
      rw [or128_nat, if_neg (by omega), if_neg (by omega)]
      have hlt : v / 128 < 128 ^ (9 - (i + 1)) := by
        rw [Nat.div_lt_iff_lt_mul (by omega)]
        have e : 9 - i = (9 - (i + 1)) + 1 := by omega
        rw [e, Nat.pow_succ] at hv
        exact hv
      rw [ih (v / 128) (by omega) (i + 1) _ (by omega) hlt (by omega)]
      have e1 : (v % 128 + 128) % 128 = v % 128 := by omega
      rw [e1]
      refine Prod.ext ?_ (Prod.ext ?_ rfl)
      · show n + ((v % 128 : Nat) : Int) * 128 ^ i + ((v / 128 : Nat) : Int) * 128 ^ (i + 1) = n + v * 128 ^ i
        rw [Int.pow_succ, Int.mul_comm (128 ^ i) 128, ← Int.mul_assoc, Int.add_assoc, ← Int.add_mul]
        congr 2
        omega
      · simp; omega
    · rw [dif_neg h]
      show getGo (lowB (v : Int) :: rest) i n = _
      unfold getGo
      rw [lowB_nat, if_neg (by omega), if_pos (by omega)]
      have e1 : v % 256 % 128 = v := by omega
      rw [e1]
      rfl

theorem getNum_ok {n : Int} (h0 : 0 ≤ n) (h1 : n ≤ 9223372036854775807) (rest : List UInt8) : getNum (putZ n ++ rest) = (n, (putZ n).length, 0) := by
  obtain ⟨v, rfl⟩ := Int.eq_ofNat_of_zero_le h0
  rw [putZ_nat]
  unfold getNum
  rw [getGo_ok rest v 0 0 (by omega) (by simp; omega) (fun h => by omega)]
  simp

theorem take_ok (b : List UInt8) (n : Int) (k : Nat) : Rd.take ⟨b, 0⟩ n k 0 = (n, ⟨b.drop k, 0⟩) := rfl

theorem got_ok (b : List UInt8) (n lo hi : Int) (k : Nat) (h1 : lo ≤ n) (h2 : n ≤ hi) : Rd.got ⟨b, 0⟩ (n, k, 0) lo hi = (n, ⟨b.drop k, 0⟩) := by
  unfold Rd.got
  rw [if_neg (by simp)]
  simp only [take_ok]
  have : inB n lo hi = true := by unfold inB; simp [h1, h2]
  rw [this]
  rfl

theorem num_ok {n lo hi : Int} (rest : List UInt8) (h0 : 0 ≤ n) (h : n ≤ 9223372036854775807) (h1 : lo ≤ n) (h2 : n ≤ hi) : Rd.num ⟨putZ n ++ rest, 0⟩ lo hi = (n, ⟨rest, 0⟩) := by
  unfold Rd.num
  simp only
  rw [getNum_ok h0 h, got_ok _ _ _ _ _ h1 h2, List.drop_left]

theorem int_ok {n lo hi : Int} (rest : List UInt8) (h : I62 n) (h1 : lo ≤ n) (h2 : n ≤ hi) : Rd.int ⟨intZ n ++ rest, 0⟩ lo hi = (n, ⟨rest, 0⟩) := by
  unfold I62 at h
  unfold Rd.int getInt
  simp only
  have key : getNum (intZ n ++ rest) = ((if n < 0 then -2 * n - 1 else 2 * n), (intZ n).length, 0) := by
    unfold intZ
    split
    · exact getNum_ok (by omega) (by omega) rest
    · exact getNum_ok (by omega) (by omega) rest
  rw [key]
  have hz : zig (if n < 0 then -2 * n - 1 else 2 * n) = n := by
    unfold zig
    split
    · split
      · omega
      · omega
    · split
      · omega
      · omega
  simp only [hz]
  rw [got_ok _ _ _ _ _ h1 h2, List.drop_left]

theorem byte_ok (c : UInt8) (l : List UInt8) : Rd.byte ⟨c :: l, 0⟩ = (c, ⟨l, 0⟩) := rfl
theorem must_ok (s : Rd) : s.must true = s := rfl

theorem same_ok : ∀ (l rest : List UInt8), Rd.same ⟨l ++ rest, 0⟩ l = ⟨rest, 0⟩ := by
  intro l
  induction l with
  | nil => intro rest; rfl
  | cons c l ih =>
    intro rest
    have e : Rd.same ⟨c :: l ++ rest, 0⟩ (c :: l) = Rd.same ((Rd.byte ⟨c :: (l ++ rest), 0⟩).2.must ((Rd.byte ⟨c :: (l ++ rest), 0⟩).1 == c)) l := rfl
    rw [e, byte_ok]
    simp only [beq_self_eq_true, must_ok]
    exact ih rest

theorem raw_ok (x rest : List UInt8) (h : x.length ≤ 1048576) : Rd.raw ⟨putZ x.length ++ x ++ rest, 0⟩ = (x, ⟨rest, 0⟩) := by
  have hg : getRaw (putZ x.length ++ x ++ rest) = (x, (putZ x.length).length + x.length, 0) := by
    unfold getRaw
    rw [List.append_assoc, getNum_ok (by omega) (by omega)]
    simp only [ne_eq, not_true_eq_false, if_false]
    rw [if_neg (by omega), if_neg (by simp only [List.length_append]; omega)]
    rw [List.drop_left]
    have e : (x.length : Int).toNat = x.length := by omega
    rw [e, List.take_left]
  unfold Rd.raw
  rw [if_neg (by simp)]
  simp only [hg, take_ok]
  have e2 : (putZ x.length ++ x ++ rest).drop ((putZ x.length).length + x.length) = rest := by
    rw [← List.length_append, List.drop_left]
  rw [e2]

theorem idsGo_okL : ∀ (m : List Int) (rest : List UInt8) (last : Int) (l : List Int), 0 ≤ last → rise last m → Rd.idsGo m.length ⟨numsL m ++ rest, 0⟩ last l = (l ++ m, ⟨rest, 0⟩) := by
  intro m
  induction m with
  | nil => intro rest last l _ _; simp [Rd.idsGo, numsL]
  | cons x m ih =>
    intro rest last l hl ⟨h1, h2, h3⟩
    have e : numsL (x :: m) ++ rest = putZ x ++ (numsL m ++ rest) := by simp [numsL]
    rw [e, List.length_cons, idsGo_ok rfl, num_ok _ (by omega) (by omega) (by omega) h2]
    simp only
    rw [ih rest x (l ++ [x]) (by omega) h3]
    simp

theorem units_rise {m : List Int} (h : unitsP m) : rise 0 m := by
  obtain ⟨_, h⟩ := h
  have key : ∀ (l : List Int) (p : Int), (∀ j, j < l.length → (p < l.getD 0 0) ∧ l.getD j 0 ≤ 1099511627776 ∧ (0 < j → l.getD (j - 1) 0 < l.getD j 0)) → rise p l := by
    intro l
    induction l with
    | nil => intro p _; trivial
    | cons x l ih =>
      intro p h
      have h0 := h 0 (by simp)
      simp only [List.getD_cons_zero] at h0
      refine ⟨h0.1, h0.2.1, ih x fun j hj => ?_⟩
      have h1 := h (j + 1) (by simpa using hj)
      simp only [List.getD_cons_succ] at h1
      have h2 := h 1 (by simp; omega)
      simp only [List.getD_cons_succ, Nat.sub_self, List.getD_cons_zero] at h2
      refine ⟨h2.2.2 (by omega), h1.2.1, fun hj0 => ?_⟩
      have := h1.2.2 (by omega)
      rw [Nat.add_sub_cancel] at this
      cases j with
      | zero => omega
      | succ j => simpa using this
  refine key m 0 fun j hj => ⟨?_, (h j hj).1.2, (h j hj).2⟩
  have := (h 0 (by omega)).1.1
  omega

theorem ids_ok {l : List Int} (h : unitsP l) (rest : List UInt8) : Rd.ids ⟨idsL l ++ rest, 0⟩ = (l, ⟨rest, 0⟩) := by
  unfold Rd.ids idsL
  have h1 := h.1
  rw [List.append_assoc, num_ok _ (by omega) (by omega) (by omega) (by omega)]
  simp only
  have e : (l.length : Int).toNat = l.length := by omega
  rw [e, idsGo_okL l rest 0 [] (by omega) (units_rise h)]
  simp

theorem tail_ok {c : Cmd} (h : cmdP c) (rest : List UInt8) : Rd.tail ⟨tailL c ++ rest, 0⟩ (cmd0 c.P c.S c.K) = (c, ⟨rest, 0⟩) := by
  obtain ⟨h1, _, _, h4⟩ := h
  have hk : ∀ d : Cmd, d.only = c → True := fun _ _ => trivial
  obtain ⟨P, S, K, N, U, T, W, H, X, Y⟩ := c
  rcases h1 with ⟨k, a, p⟩ | ⟨k, u, t⟩ | ⟨k, u⟩ | ⟨k, t, w, hh⟩ | ⟨k, n⟩ | ⟨k, u, n⟩ | ⟨k, n, t⟩
  · simp only at k a p; subst k
    rw [Cmd.only1 rfl] at h4
    simp only [Cmd.mk.injEq] at h4
    obtain ⟨_, _, _, _, rfl, rfl, rfl, rfl, _, _⟩ := h4
    unfold placeP at p
    have e : tailL ⟨P, S, 1, N, [], 0, 0, 0, X, Y⟩ ++ rest = putZ N ++ (intZ X ++ (intZ Y ++ rest)) := by simp [tailL]
    rw [e]
    unfold Rd.tail cmd0
    simp only [if_true]
    rw [num_ok _ a.1 (by omega) a.1 a.2]
    simp only
    rw [int_ok _ (by unfold I62; omega) p.1.1 p.1.2]
    simp only
    rw [int_ok _ (by unfold I62; omega) p.2.1 p.2.2]
  · simp only at k u t; subst k
    rw [Cmd.only2 rfl] at h4
    simp only [Cmd.mk.injEq] at h4
    obtain ⟨_, _, _, rfl, _, _, rfl, rfl, rfl, rfl⟩ := h4
    unfold tileP at t
    have e : tailL ⟨P, S, 2, 0, U, T, 0, 0, 0, 0⟩ ++ rest = idsL U ++ (putZ T ++ rest) := by simp [tailL]
    rw [e]
    unfold Rd.tail cmd0
    simp only [if_true, show ¬ (2 : Int) = 1 by decide, if_false]
    rw [ids_ok u]
    simp only
    rw [num_ok _ t.1 (by omega) t.1 t.2]
  · simp only at k u; subst k
    rw [Cmd.only3 rfl] at h4
    simp only [Cmd.mk.injEq] at h4
    obtain ⟨_, _, _, rfl, _, rfl, rfl, rfl, rfl, rfl⟩ := h4
    have e : tailL ⟨P, S, 3, 0, U, 0, 0, 0, 0, 0⟩ ++ rest = idsL U ++ rest := by simp [tailL]
    rw [e]
    unfold Rd.tail cmd0
    simp only [if_true, show ¬ (3 : Int) = 1 by decide, show ¬ (3 : Int) = 2 by decide, if_false]
    rw [ids_ok u]
  · simp only at k t w hh; subst k
    rw [Cmd.only4 rfl] at h4
    simp only [Cmd.mk.injEq] at h4
    obtain ⟨_, _, _, rfl, rfl, _, _, _, rfl, rfl⟩ := h4
    unfold tileP at t
    have e : tailL ⟨P, S, 4, 0, [], T, W, H, 0, 0⟩ ++ rest = putZ T ++ (putZ W ++ (putZ H ++ rest)) := by simp [tailL]
    rw [e]
    unfold Rd.tail cmd0
    simp only [if_true, show ¬ (4 : Int) = 1 by decide, show ¬ (4 : Int) = 2 by decide, show ¬ (4 : Int) = 3 by decide, if_false]
    rw [num_ok _ t.1 (by omega) t.1 t.2]
    simp only
    rw [num_ok _ (by omega) (by omega) w.1 w.2]
    simp only
    rw [num_ok _ (by omega) (by omega) hh.1 hh.2]
  · simp only at k n; subst k
    rw [Cmd.only5 rfl] at h4
    simp only [Cmd.mk.injEq] at h4
    obtain ⟨_, _, _, _, rfl, rfl, rfl, rfl, rfl, rfl⟩ := h4
    unfold idP at n
    have e : tailL ⟨P, S, 5, N, [], 0, 0, 0, 0, 0⟩ ++ rest = putZ N ++ rest := by simp [tailL]
    rw [e]
    unfold Rd.tail cmd0
    simp only [if_true, show ¬ (5 : Int) = 1 by decide, show ¬ (5 : Int) = 2 by decide, show ¬ (5 : Int) = 3 by decide, show ¬ (5 : Int) = 4 by decide, if_false]
    rw [num_ok _ (by omega) (by omega) n.1 n.2]
  · simp only at k u n; subst k
    rw [Cmd.only6 rfl] at h4
    simp only [Cmd.mk.injEq] at h4
    obtain ⟨_, _, _, _, _, rfl, rfl, rfl, rfl, rfl⟩ := h4
    unfold idP at n
    have e : tailL ⟨P, S, 6, N, U, 0, 0, 0, 0, 0⟩ ++ rest = idsL U ++ (putZ N ++ rest) := by simp [tailL]
    rw [e]
    unfold Rd.tail cmd0
    simp only [if_true, show ¬ (6 : Int) = 1 by decide, show ¬ (6 : Int) = 2 by decide, show ¬ (6 : Int) = 3 by decide, show ¬ (6 : Int) = 4 by decide, show ¬ (6 : Int) = 5 by decide, if_false]
    rw [ids_ok u]
    simp only
    rw [num_ok _ (by omega) (by omega) n.1 n.2]
  · simp only at k n t; subst k
    rw [Cmd.only7 rfl] at h4
    simp only [Cmd.mk.injEq] at h4
    obtain ⟨_, _, _, _, rfl, _, rfl, rfl, rfl, rfl⟩ := h4
    unfold idP at n
    unfold tileP at t
    have e : tailL ⟨P, S, 7, N, [], T, 0, 0, 0, 0⟩ ++ rest = putZ N ++ (putZ T ++ rest) := by simp [tailL]
    rw [e]
    unfold Rd.tail cmd0
    simp only [if_true, show ¬ (7 : Int) = 1 by decide, show ¬ (7 : Int) = 2 by decide, show ¬ (7 : Int) = 3 by decide, show ¬ (7 : Int) = 4 by decide, show ¬ (7 : Int) = 5 by decide, show ¬ (7 : Int) = 6 by decide, if_false]
    rw [num_ok _ (by omega) (by omega) n.1 n.2]
    simp only
    rw [num_ok _ t.1 (by omega) t.1 t.2]

theorem kind_bd {c : Cmd} (h : c.okP) : 1 ≤ c.K ∧ c.K ≤ 7 := by
  rcases h with ⟨k, _⟩ | ⟨k, _⟩ | ⟨k, _⟩ | ⟨k, _⟩ | ⟨k, _⟩ | ⟨k, _⟩ | ⟨k, _⟩ <;> omega

theorem cmd_ok {c : Cmd} (h : cmdP c) (rest : List UInt8) : Rd.cmd ⟨cmdL c ++ rest, 0⟩ = (c, ⟨rest, 0⟩) := by
  have hk := kind_bd h.1
  have e : cmdL c ++ rest = putZ c.K ++ (putZ c.P ++ (putZ c.S ++ (tailL c ++ rest))) := by simp [cmdL]
  have hp := h.2.1
  have hs := h.2.2.1
  rw [e]
  unfold Rd.cmd
  rw [num_ok _ (by omega) (by omega) hk.1 hk.2]
  simp only
  rw [num_ok _ (by omega) (by omega) hp.1 hp.2]
  simp only
  rw [num_ok _ (by omega) (by omega) hs.1 hs.2]
  simp only
  exact tail_ok h rest

theorem tilesGo_okL : ∀ (m rest l : List UInt8), (∀ t ∈ m, t.toNat ≤ 5) → Rd.tilesGo m.length ⟨m ++ rest, 0⟩ l = (l ++ m, ⟨rest, 0⟩) := by
  intro m
  induction m with
  | nil => intro rest l _; simp [Rd.tilesGo]
  | cons c m ih =>
    intro rest l h
    have hc : decide (c.toNat ≤ 5) = true := by simpa using h c (by simp)
    rw [List.length_cons, tilesGo_ok rfl]
    have e : Rd.byte ⟨c :: m ++ rest, 0⟩ = (c, ⟨m ++ rest, 0⟩) := rfl
    rw [e]
    simp only [hc, must_ok]
    rw [ih rest (l ++ [c]) fun t ht => h t (by simp [ht])]
    simp

theorem mapParse_ok {g : Gnd} (h : gndP g) : mapParse (gndL g) = (g, 0) := by
  obtain ⟨h1, h2, h3, h4⟩ := h
  have hm := side_mul h1 h2
  have e0 : gndL g = [84, 71] ++ (putZ g.W ++ (putZ g.H ++ (g.T ++ eightL (fnvSum fnvStart (signL g))))) := by simp [gndL, signL]
  have a1 : mapHead (gndL g) = (g.W, ⟨putZ g.H ++ (g.T ++ eightL (fnvSum fnvStart (signL g))), 0⟩) := by
    unfold mapHead
    rw [e0, same_ok, num_ok _ (by omega) (by omega) h1.1 h1.2]
  have a2 : mapSide (gndL g) = (g.H, ⟨g.T ++ eightL (fnvSum fnvStart (signL g)), 0⟩) := by
    unfold mapSide
    rw [a1]
    simp only
    rw [num_ok _ (by omega) (by omega) h2.1 h2.2]
  have a3 : mapTiles (gndL g) = (g.T, ⟨eightL (fnvSum fnvStart (signL g)), 0⟩) := by
    unfold mapTiles
    rw [a1, a2]
    simp only
    have e : (g.W * g.H).toNat = g.T.length := by omega
    rw [e, tilesGo_okL _ _ _ h4]
    simp
  have a4 : mapSum (gndL g) = ⟨[], 0⟩ := by
    unfold mapSum
    rw [a3]
    simp only
    have e : (gndL g).take ((gndL g).length - (eightL (fnvSum fnvStart (signL g))).length) = signL g := by
      have : (gndL g).length - (eightL (fnvSum fnvStart (signL g))).length = (signL g).length := by simp [gndL]
      rw [this]
      unfold gndL
      rw [List.take_left]
    rw [e]
    have := same_ok (eightL (fnvSum fnvStart (signL g))) []
    rw [List.append_nil] at this
    rw [this]
    rfl
  unfold mapParse
  rw [a4, a1, a2, a3]
  simp

theorem cmdsGo_okL (pl : Int) : ∀ (m : List Cmd) (rest : List UInt8) (l : List Cmd),
    (∀ j, (h : j < m.length) → (cmdP m[j] ∧ m[j].P ≤ pl) ∧ ((h2 : 0 < j) → afterP (m[j - 1]'(by omega)) m[j]) ∧ (j = 0 → ∀ d, l.getLast? = some d → afterP d m[j])) →
    Rd.cmdsGo pl m.length ⟨m.flatMap cmdL ++ rest, 0⟩ l = (l ++ m, ⟨rest, 0⟩) := by
  intro m
  induction m with
  | nil => intro rest l _; simp [Rd.cmdsGo]
  | cons c m ih =>
    intro rest l h
    have h0 := h 0 (by simp)
    simp only [List.getElem_cons_zero] at h0
    have hn : nextB pl l c = true := by
      unfold nextB
      rw [Bool.and_eq_true]
      refine ⟨by simpa using h0.1.2, ?_⟩
      cases hl : l.getLast? with
      | none => rfl
      | some d => simpa using h0.2.2 (by trivial) d hl
    rw [List.length_cons, cmdsGo_ok rfl]
    have e : (c :: m).flatMap cmdL ++ rest = cmdL c ++ (m.flatMap cmdL ++ rest) := by simp
    rw [e, cmd_ok h0.1.1]
    simp only [hn, must_ok]
    rw [ih rest (l ++ [c]) fun j hj => ?_]
    · simp
    · have h1 := h (j + 1) (by simpa using hj)
      simp only [List.getElem_cons_succ] at h1
      refine ⟨h1.1, fun hj0 => ?_, fun hj0 d hd => ?_⟩
      · have := h1.2.1 (by omega)
        obtain ⟨i, rfl⟩ : ∃ i, j = i + 1 := ⟨j - 1, by omega⟩
        simpa using this
      · subst hj0
        have := h1.2.1 (by omega)
        simp at hd this
        subst hd
        exact this

theorem bytesGo_okL : ∀ (m rest l : List UInt8), Rd.bytesGo m.length ⟨m ++ rest, 0⟩ l = (l ++ m, ⟨rest, 0⟩) := by
  intro m
  induction m with
  | nil => intro rest l; simp [Rd.bytesGo]
  | cons c m ih =>
    intro rest l
    have e : Rd.bytesGo (c :: m).length ⟨c :: m ++ rest, 0⟩ l = Rd.bytesGo m.length ⟨m ++ rest, 0⟩ (l ++ [c]) := rfl
    rw [e, ih]
    simp

theorem leN_eight {h : Int} (h0 : 0 ≤ h) (h1 : h ≤ 18446744073709551615) : leN (eightL h) = h := by
  have key : ∀ (k : Nat) (h : Int), 0 ≤ h → h < 256 ^ k → leN ((List.range k).map fun i => lowB (h / 256 ^ i)) = h := by
    intro k
    induction k with
    | zero => intro h h0 h1; simp [leN] at *; omega
    | succ k ih =>
      intro h h0 h1
      rw [List.range_succ_eq_map, List.map_cons, List.map_map]
      have e : leN (lowB (h / 256 ^ 0) :: (List.range k).map ((fun i => lowB (h / 256 ^ i)) ∘ Nat.succ)) = ((lowB (h / 256 ^ 0)).toNat : Int) + 256 * leN ((List.range k).map ((fun i => lowB (h / 256 ^ i)) ∘ Nat.succ)) := rfl
      rw [e, Int.pow_zero, Int.ediv_one]
      have e2 : ((fun i => lowB (h / 256 ^ i)) ∘ Nat.succ) = fun i => lowB ((h / 256) / 256 ^ i) := by
        funext i
        simp only [Function.comp]
        rw [Int.ediv_ediv_of_nonneg (by decide), Nat.succ_eq_add_one, Int.pow_succ, Int.mul_comm]
      rw [Int.pow_succ] at h1
      rw [e2, ih (h / 256) (by omega) (by omega)]
      obtain ⟨v, rfl⟩ := Int.eq_ofNat_of_zero_le h0
      rw [lowB_nat]
      omega
  exact key 8 h h0 (by omega)

theorem frame_okL {pl sum : Int} {f : Frm} (hp : frmP pl f.C) (h0 : 0 ≤ f.hash) (h1 : f.hash ≤ 18446744073709551615) (rest : List UInt8) :
    frCmds pl ⟨frBody f ++ (eightL (fnvSum sum (frBody f)) ++ rest), 0⟩ = (f.C, ⟨eightL f.hash ++ (eightL (fnvSum sum (frBody f)) ++ rest), 0⟩) ∧
    frHash pl ⟨frBody f ++ (eightL (fnvSum sum (frBody f)) ++ rest), 0⟩ = (eightL f.hash, ⟨eightL (fnvSum sum (frBody f)) ++ rest, 0⟩) ∧
    frSum pl sum ⟨frBody f ++ (eightL (fnvSum sum (frBody f)) ++ rest), 0⟩ = fnvSum sum (frBody f) ∧
    frRd pl sum ⟨frBody f ++ (eightL (fnvSum sum (frBody f)) ++ rest), 0⟩ = ⟨rest, 0⟩ ∧
    frFrm pl ⟨frBody f ++ (eightL (fnvSum sum (frBody f)) ++ rest), 0⟩ f.turn = f := by
  have a1 : frCmds pl ⟨frBody f ++ (eightL (fnvSum sum (frBody f)) ++ rest), 0⟩ = (f.C, ⟨eightL f.hash ++ (eightL (fnvSum sum (frBody f)) ++ rest), 0⟩) := by
    have e : ∀ r : List UInt8, frBody f ++ r = putZ f.C.length ++ (f.C.flatMap cmdL ++ (eightL f.hash ++ r)) := by intro r; simp [frBody]
    rw [e]
    unfold frCmds
    have := hp.1
    rw [num_ok _ (by omega) (by omega) (by omega) (by omega)]
    simp only
    have e2 : (f.C.length : Int).toNat = f.C.length := by omega
    rw [e2, cmdsGo_okL pl f.C _ [] fun j hj => ⟨(hp.2 j hj).1, fun h => (hp.2 j hj).2 h, fun _ d hd => by simp at hd⟩]
    simp
  have a2 : frHash pl ⟨frBody f ++ (eightL (fnvSum sum (frBody f)) ++ rest), 0⟩ = (eightL f.hash, ⟨eightL (fnvSum sum (frBody f)) ++ rest, 0⟩) := by
    unfold frHash
    rw [a1]
    simp only
    have := bytesGo_okL (eightL f.hash) (eightL (fnvSum sum (frBody f)) ++ rest) []
    rw [eightL_len] at this
    rw [this]
    simp
  have a3 : frSum pl sum ⟨frBody f ++ (eightL (fnvSum sum (frBody f)) ++ rest), 0⟩ = fnvSum sum (frBody f) := by
    unfold frSum
    rw [a2]
    simp only
    have e : (frBody f ++ (eightL (fnvSum sum (frBody f)) ++ rest)).length - (eightL (fnvSum sum (frBody f)) ++ rest).length = (frBody f).length := by rw [List.length_append]; omega
    rw [e, List.take_left]
  refine ⟨a1, a2, a3, ?_, ?_⟩
  · unfold frRd
    rw [a2, a3]
    simp only
    exact same_ok _ _
  · unfold frFrm
    rw [a1, a2]
    simp only
    rw [leN_eight h0 h1]

theorem framesGo_okL (pl : Int) : ∀ (m : List Frm) (n : Nat) (pre : List UInt8) (l : List Frm), m.length < n → l.length + m.length ≤ 4096 →
    (∀ j, (h : j < m.length) → (m[j].turn = (l.length + j : Nat) ∧ frmP pl m[j].C) ∧ 0 ≤ m[j].hash ∧ m[j].hash ≤ 18446744073709551615) →
    ∀ b, m.foldl frStep pre = pre ++ b → framesGo pl n ⟨b, 0⟩ (fnvSum fnvStart pre) l = (l ++ m, ⟨[], 0⟩) := by
  intro m
  induction m with
  | nil =>
    intro n pre l hn _ _ b hb
    obtain ⟨k, rfl⟩ : ∃ k, n = k + 1 := ⟨n - 1, by simp at hn; omega⟩
    have : b = [] := by simpa using hb
    subst this
    rw [framesGo, if_pos (show (⟨[], 0⟩ : Rd).b.length = 0 from rfl)]
    simp
  | cons f m ih =>
    intro n pre l hn hl h b hb
    obtain ⟨k, rfl⟩ : ∃ k, n = k + 1 := ⟨n - 1, by simp at hn; omega⟩
    have h0 := h 0 (by simp)
    simp only [List.getElem_cons_zero, Nat.add_zero] at h0
    obtain ⟨rest, hrest⟩ : ∃ rest, m.foldl frStep (frStep pre f) = frStep pre f ++ rest := by
      have key : ∀ (m : List Frm) (p : List UInt8), ∃ r, m.foldl frStep p = p ++ r := by
        intro m
        induction m with
        | nil => intro p; exact ⟨[], by simp⟩
        | cons g m ih2 =>
          intro p
          obtain ⟨r, hr⟩ := ih2 (frStep p g)
          refine ⟨frBody g ++ (eightL (fnvSum fnvStart (p ++ frBody g)) ++ r), ?_⟩
          rw [List.foldl_cons, hr]
          simp [frStep]
      exact key m _
    rw [List.foldl_cons, hrest] at hb
    have hb2 : b = frBody f ++ (eightL (fnvSum (fnvSum fnvStart pre) (frBody f)) ++ rest) := by
      rw [← fnvSum_app]
      unfold frStep at hb
      rw [List.append_assoc, List.append_assoc] at hb
      exact (List.append_cancel_left hb).symm
    have hne : b.length ≠ 0 := by rw [hb2]; simp [eightL_len]
    obtain ⟨_, _, a3, a4, a5⟩ := frame_okL (sum := fnvSum fnvStart pre) h0.1.2 h0.2.1 h0.2.2 rest
    rw [← hb2] at a3 a4 a5
    have hm : Rd.must ⟨b, 0⟩ (decide (l.length < 4096)) = ⟨b, 0⟩ := by
      have : l.length < 4096 := by simp at hl; omega
      unfold Rd.must; simp [this]
    rw [framesGo, if_neg hne, hm, if_neg (by simp), a4, if_neg (by simp)]
    have hf : frFrm pl ⟨b, 0⟩ (l.length : Int) = f := by rw [← h0.1.1]; exact a5
    have hs : frNext pl (fnvSum fnvStart pre) ⟨b, 0⟩ = fnvSum fnvStart (frStep pre f) := by
      unfold frNext frStep
      rw [a3, fnvSum_app, fnvSum_app]
    rw [hf, hs, ih k (frStep pre f) (l ++ [f]) (by simp at hn; omega) (by simp at hl ⊢; omega) ?_ rest hrest]
    · simp
    · intro j hj
      have := h (j + 1) (by simpa using hj)
      simp only [List.getElem_cons_succ] at this
      refine ⟨⟨?_, this.1.2⟩, this.2⟩
      rw [this.1.1]
      simp
      omega

set_option maxRecDepth 20000 in
theorem repParse_ok {r : Rep} (h : repP r) (hh : ∀ f ∈ r.F, 0 ≤ f.hash ∧ f.hash ≤ 18446744073709551615) (hl : (repL r).length ≤ 1048576) : repParse (repL r) = (r, 0) := by
  obtain ⟨body, hbody⟩ : ∃ body, repL r = headL r ++ body := by
    have key : ∀ (m : List Frm) (p : List UInt8), ∃ q, m.foldl frStep p = p ++ q := by
      intro m
      induction m with
      | nil => intro p; exact ⟨[], by simp⟩
      | cons g m ih2 =>
        intro p
        obtain ⟨q, hq⟩ := ih2 (frStep p g)
        refine ⟨frBody g ++ (eightL (fnvSum fnvStart (p ++ frBody g)) ++ q), ?_⟩
        rw [List.foldl_cons, hq]
        simp [frStep]
    exact key _ _
  have hg := (gndL_len h.2.1).2
  have hp := h.1
  have e0 : repL r = [84, 82] ++ (putZ r.P ++ (putZ (gndL r.G).length ++ gndL r.G ++ body)) := by rw [hbody]; simp [headL]
  have a1 : rpHead (repL r) = (r.P, ⟨putZ (gndL r.G).length ++ gndL r.G ++ body, 0⟩) := by
    unfold rpHead
    rw [e0, same_ok, num_ok _ (by omega) (by omega) hp.1 hp.2]
  have a2 : rpRaw (repL r) = (gndL r.G, ⟨body, 0⟩) := by
    unfold rpRaw
    rw [a1]
    exact raw_ok _ _ (by omega)
  have a3 : rpGnd (repL r) = (r.G, ⟨body, 0⟩) := by
    unfold rpGnd
    rw [a2]
    simp only
    rw [if_pos trivial, mapParse_ok h.2.1]
    rfl
  have e1 : (repL r).take ((repL r).length - body.length) = headL r := by
    have : (repL r).length - body.length = (headL r).length := by rw [hbody, List.length_append]; omega
    rw [this, hbody, List.take_left]
  have a4 : rpFrames (repL r) = (r.F, ⟨[], 0⟩) := by
    rw [rpFrames, a1, a3]
    dsimp only
    rw [e1]
    have := framesGo_okL r.P r.F 4097 (headL r) [] (by have := h.2.2.1; omega) (by have := h.2.2.1; simp; omega) (fun j hj => ?_) body hbody
    · rw [List.nil_append] at this
      exact this
    · have h2 := h.2.2.2 j hj
      refine ⟨⟨by rw [h2.1]; simp, h2.2⟩, hh _ (List.getElem_mem hj)⟩
  rw [repParse, if_neg (by omega), a3, a4, a1]
  simp
end Go.V
namespace Go.V
/-- The head alone, and what the law lays beside it. -/
def hd0 (r : Rep) : Rep := ⟨r.P, r.G, []⟩
def hd1 (r : Rep) : Rep := ⟨r.P, r.G, [⟨1, [], 0⟩]⟩
def hd2 (r : Rep) : Rep := ⟨r.P, r.G, [⟨0, [], 7⟩]⟩
def hd3 (r : Rep) : Rep := ⟨9, r.G, []⟩

theorem hd0_light {r : Rep} (h : r.light) : (hd0 r).light := ⟨by simp [hd0, weigh], fun f hf => by simp [hd0] at hf, h.2.2⟩
theorem hd1_light {r : Rep} (h : r.light) : (hd1 r).light := ⟨by simp [hd1, weigh], fun f hf c hc => by simp [hd1] at hf; subst hf; simp at hc, h.2.2⟩
theorem hd2_light {r : Rep} (h : r.light) : (hd2 r).light := ⟨by simp [hd2, weigh], fun f hf c hc => by simp [hd2] at hf; subst hf; simp at hc, h.2.2⟩
theorem hd3_light {r : Rep} (h : r.light) : (hd3 r).light := ⟨by simp [hd3, weigh], fun f hf => by simp [hd3] at hf, h.2.2⟩

theorem hd1_not (r : Rep) : ¬ repP (hd1 r) := fun h => by
  have := (h.2.2.2 0 (by simp [hd1])).1
  simp [hd1] at this
theorem hd3_not (r : Rep) : ¬ repP (hd3 r) := fun h => by
  have := h.1.2
  simp [hd3] at this
theorem hd2_ok {r : Rep} (h : repP (hd0 r)) : repP (hd2 r) := by
  refine ⟨h.1, h.2.1, by simp [hd2], fun j hj => ?_⟩
  have : j = 0 := by simp [hd2] at hj; omega
  subst this
  refine ⟨by simp [hd2], by simp [hd2], fun j hj => ?_⟩
  simp [hd2] at hj
theorem hd2_put (r : Rep) : ∃ q, q.length = 17 ∧ repL (hd2 r) = repL (hd0 r) ++ q := by
  refine ⟨frBody ⟨0, [], 7⟩ ++ eightL (fnvSum fnvStart (headL (hd2 r) ++ frBody ⟨0, [], 7⟩)), ?_, ?_⟩
  · have h1 : (frBody ⟨0, [], 7⟩).length = 9 := by decide +kernel
    rw [List.length_append, h1]
    unfold eightL
    rw [List.length_map, List.length_range]
  · show frStep (headL (hd2 r)) ⟨0, [], 7⟩ = headL (hd0 r) ++ _
    rw [frStep, List.append_assoc]
    rfl
theorem hd0_read {r : Rep} (hl : r.light) (h : repP (hd0 r)) : repParse (repL (hd0 r)) = (hd0 r, 0) :=
  repParse_ok h (fun f hf => by simp [hd0] at hf) (light_len (hd0_light hl) h)

theorem AV.le_row {k : Nat} {xs ys : List AV} (h : leL xs ys) : AV.le (.lst k [xs] none) (.lst k [ys] none) := by
  obtain ⟨h1, h2⟩ := leL_spec h
  have at1 : ∀ (i : Nat) (row : List AV) (j : Nat) (y : AV), [ys][i]? = some row → row[j]? = some y → i = 0 ∧ ∃ x, xs[j]? = some x ∧ AV.le x y := by
    intro i row j y hi hj
    cases i with
    | succ i => simp at hi
    | zero =>
      simp at hi; subst hi
      have hlt : j < xs.length := by rw [h1]; exact (List.getElem?_eq_some_iff.1 hj).1
      exact ⟨rfl, xs[j], by simp [hlt], h2 j _ _ (by simp [hlt]) hj⟩
  intro w T v h
  cases h with
  | lst _ _ b off cap _ c hcap hkk htok hc h1' hx =>
    refine .lst [ys] none b off cap k c hcap ?_ (fun _ h => by cases h) (fun i row j y hi hj => ?_) (fun i row j y hi hj => ?_) (fun i row j y hi hj => ?_)
    · intro i row hi
      cases i with
      | succ i => simp at hi
      | zero => simp at hi; subst hi; rw [← h1]; exact hkk 0 xs rfl
    · obtain ⟨rfl, x, hx1, _⟩ := at1 i row j y hi hj
      exact hc 0 xs j x rfl hx1
    · obtain ⟨rfl, x, hx1, _⟩ := at1 i row j y hi hj
      exact h1' 0 xs j x rfl hx1
    · obtain ⟨rfl, x, hx1, hle⟩ := at1 i row j y hi hj
      exact hle _ _ _ (hx 0 xs j x rfl hx1)
end Go.V
/- What is read of bytes that were cut: no program in sight. -/
namespace Go.V
set_option linter.unusedVariables false

/-- The reader of the cut bytes against that of the whole. -/
def Ct (z : List UInt8) (s' s : Rd) : Prop := s'.e = 0 ∧ s.b = s'.b ++ z
def Cm {α : Type} (z : List UInt8) (r' r : α × Rd) : Prop := r'.2.e = 11 ∨ (r'.1 = r.1 ∧ Ct z r'.2 r.2)

theorem Cm.bind {α β : Type} {z : List UInt8} {r' r : α × Rd} (f : α → Rd → β × Rd) (h : Cm z r' r) (stuck : ∀ a s, s.e = 11 → (f a s).2.e = 11)
    (good : ∀ s', Ct z s' r.2 → Cm z (f r.1 s') (f r.1 r.2)) : Cm z (f r'.1 r'.2) (f r.1 r.2) := by
  rcases h with h | ⟨h1, h2⟩
  · exact .inl (stuck _ _ h)
  · rw [h1]; exact good _ h2

theorem getGo_cut (z : List UInt8) : ∀ (b : List UInt8) (i : Nat) (n v : Int) (k : Nat), getGo (b ++ z) i n = (v, k, 0) → (getGo b i n).2.2 = 11 ∨ (getGo b i n = (v, k, 0)) := by
  intro b
  induction b with
  | nil => intro i n v k _; exact .inl rfl
  | cons c l ih =>
    intro i n v k h
    rw [List.cons_append, getGo] at h
    rw [getGo]
    split at h
    · rename_i h1; rw [if_pos h1]; cases h
    · rename_i h1
      rw [if_neg h1]
      split at h
      · rename_i h2; rw [if_pos h2]; exact .inr h
      · rename_i h2; rw [if_neg h2]; exact ih _ _ _ _ h
theorem getNum_cut {z b : List UInt8} (h : (getNum (b ++ z)).2.2 = 0) : (getNum b).2.2 = 11 ∨ (getNum b = getNum (b ++ z) ∧ (getNum b).2.1 ≤ b.length) := by
  have e : getNum (b ++ z) = ((getNum (b ++ z)).1, (getNum (b ++ z)).2.1, 0) := by rw [← h]
  rcases getGo_cut z b 0 0 _ _ e with h1 | h1
  · exact .inl h1
  · have h2 : getNum b = getNum (b ++ z) := by rw [e]; exact h1
    refine .inr ⟨h2, ?_⟩
    rcases getNum_facts b with h3 | h3
    · exact h3.2.1
    · omega

theorem must_stuck {s : Rd} {ok : Bool} (h : s.e = 11) : (s.must ok).e = 11 := by
  unfold Rd.must Rd.fail
  rw [if_neg (by omega : ¬ s.e = 0)]
  split <;> exact h
theorem got_stuck {s : Rd} {g : Int × Nat × Int} {lo hi : Int} (h : s.e = 11) : (s.got g lo hi).2.e = 11 := by
  unfold Rd.got
  rw [if_pos (by omega : s.e ≠ 0)]
  exact h
theorem num_stuck {s : Rd} {lo hi : Int} (h : s.e = 11) : (s.num lo hi).2.e = 11 := got_stuck h
theorem int_stuck {s : Rd} {lo hi : Int} (h : s.e = 11) : (s.int lo hi).2.e = 11 := got_stuck h
theorem byte_stuck {s : Rd} (h : s.e = 11) : s.byte.2.e = 11 := by
  unfold Rd.byte
  rw [if_pos (by omega : s.e ≠ 0)]
  exact h
theorem raw_stuck {s : Rd} (h : s.e = 11) : s.raw.2.e = 11 := by
  unfold Rd.raw
  rw [if_pos (by omega : s.e ≠ 0)]
  exact h
theorem idsGo_stuck {n : Nat} {s : Rd} {last : Int} {l : List Int} (h : s.e = 11) : (Rd.idsGo n s last l).2.e = 11 := by
  rw [idsGo_bad (by omega)]; exact h
theorem ids_stuck {s : Rd} (h : s.e = 11) : s.ids.2.e = 11 := idsGo_stuck (num_stuck h)
theorem same_stuck : ∀ (l : List UInt8) {s : Rd}, s.e = 11 → (s.same l).e = 11 := by
  intro l
  induction l with
  | nil => intro s h; exact h
  | cons c l ih => intro s h; exact ih (must_stuck (byte_stuck h))
theorem bytesGo_stuck : ∀ (n : Nat) {s : Rd} {l : List UInt8}, s.e = 11 → (Rd.bytesGo n s l).2.e = 11 := by
  intro n
  induction n with
  | zero => intro s l h; exact h
  | succ n ih => intro s l h; exact ih (byte_stuck h)
theorem cmdsGo_stuck {pl : Int} {n : Nat} {s : Rd} {l : List Cmd} (h : s.e = 11) : (Rd.cmdsGo pl n s l).2.e = 11 := by
  rw [cmdsGo_bad (by omega)]; exact h
theorem tail_stuck {s : Rd} {c : Cmd} (h : s.e = 11) : (s.tail c).2.e = 11 := by
  unfold Rd.tail
  repeat' split
  all_goals simp only
  · exact int_stuck (int_stuck (num_stuck h))
  · exact num_stuck (ids_stuck h)
  · exact ids_stuck h
  · exact num_stuck (num_stuck (num_stuck h))
  · exact num_stuck h
  · exact num_stuck (ids_stuck h)
  · exact num_stuck (num_stuck h)
  · exact h
theorem cmd_stuck {s : Rd} (h : s.e = 11) : s.cmd.2.e = 11 := tail_stuck (num_stuck (num_stuck (num_stuck h)))

theorem got_cut {z : List UInt8} {s' s : Rd} (hc : Ct z s' s) {g' g : Int × Nat × Int} {lo hi : Int} (hg : g.2.2 = 0 → g'.2.2 = 11 ∨ (g' = g ∧ g.2.1 ≤ s'.b.length)) (h : (s.got g lo hi).2.e = 0) : Cm z (s'.got g' lo hi) (s.got g lo hi) := by
  obtain ⟨h1, h2, h3, h4, h5, h6⟩ := got_e h
  obtain ⟨b', e'⟩ := s'
  obtain ⟨hc1, hc2⟩ := hc
  dsimp only at hc1 hc2 hg
  subst hc1
  rcases hg h2 with h7 | ⟨rfl, h7⟩
  · left
    have e : Rd.take ⟨b', 0⟩ g'.1 g'.2.1 g'.2.2 = (0, ⟨b', 11⟩) := by
      unfold Rd.take Rd.fail
      rw [h7]; rfl
    unfold Rd.got
    rw [if_neg (show ¬ (⟨b', 0⟩ : Rd).e ≠ 0 from fun h => h rfl)]
    simp only [e]
    exact must_stuck rfl
  · right
    obtain ⟨n, k, e⟩ := g'
    dsimp only at h2 h5 h6 h7 h3 h4
    subst h2
    rw [got_ok b' n lo hi k h5 h6]
    refine ⟨h3.symm, rfl, ?_⟩
    rw [h4, hc2]
    exact List.drop_append_of_le_length h7
theorem num_cut {z : List UInt8} {s' s : Rd} {lo hi : Int} (hc : Ct z s' s) (h : (s.num lo hi).2.e = 0) : Cm z (s'.num lo hi) (s.num lo hi) := by
  refine got_cut hc (fun h0 => ?_) h
  rw [hc.2] at h0 ⊢
  rcases getNum_cut h0 with h1 | ⟨h1, h2⟩
  · exact .inl h1
  · exact .inr ⟨h1, by rw [← h1]; exact h2⟩
theorem int_cut {z : List UInt8} {s' s : Rd} {lo hi : Int} (hc : Ct z s' s) (h : (s.int lo hi).2.e = 0) : Cm z (s'.int lo hi) (s.int lo hi) := by
  refine got_cut hc (fun h0 => ?_) h
  rw [hc.2] at h0 ⊢
  rcases getNum_cut (z := z) (b := s'.b) h0 with h1 | ⟨h1, h2⟩
  · exact .inl h1
  · refine .inr ⟨by unfold getInt; rw [h1], ?_⟩
    show (getNum (s'.b ++ z)).2.1 ≤ _
    rw [← h1]; exact h2
theorem byte_cut {z : List UInt8} {s' s : Rd} (hc : Ct z s' s) (h : s.byte.2.e = 0) : Cm z s'.byte s.byte := by
  obtain ⟨h1, h2⟩ := byte_put h
  obtain ⟨b', e'⟩ := s'
  obtain ⟨b, e⟩ := s
  obtain ⟨hc1, hc2⟩ := hc
  dsimp only at hc1 hc2 h1
  subst hc1 hc2 h1
  cases b' with
  | nil => exact .inl rfl
  | cons c l => exact .inr ⟨rfl, rfl, rfl⟩

theorem byte_e {s : Rd} (h : s.byte.2.e = 0) : s.e = 0 := (byte_put h).1
theorem same_cut {z : List UInt8} : ∀ (l : List UInt8) {s' s : Rd}, Ct z s' s → (s.same l).e = 0 → (s'.same l).e = 11 ∨ Ct z (s'.same l) (s.same l) := by
  intro l
  induction l with
  | nil => intro s' s hc _; exact .inr hc
  | cons c l ih =>
    intro s' s hc h
    have h : ((s.byte.2.must (s.byte.1 == c)).same l).e = 0 := h
    have h0 := (same_put _ _ h).1
    obtain ⟨h1, h2, h3⟩ := must_e h0
    show ((s'.byte.2.must (s'.byte.1 == c)).same l).e = 11 ∨ Ct z ((s'.byte.2.must (s'.byte.1 == c)).same l) ((s.byte.2.must (s.byte.1 == c)).same l)
    rcases byte_cut hc h1 with h4 | ⟨h4, h5⟩
    · exact .inl (same_stuck _ (must_stuck h4))
    · rw [h4]
      have e : s'.byte.2.must (s.byte.1 == c) = s'.byte.2 := by rw [h2]; rfl
      rw [h3] at h ⊢
      rw [e]
      exact ih h5 h
theorem raw_cut {z : List UInt8} {s' s : Rd} (hc : Ct z s' s) (h : s.raw.2.e = 0) : Cm z s'.raw s.raw := by
  obtain ⟨b', e'⟩ := s'
  obtain ⟨b, e⟩ := s
  obtain ⟨hc1, hc2⟩ := hc
  dsimp only at hc1 hc2
  subst hc1 hc2
  have h0 := (raw_put h).1
  dsimp only at h0
  subst h0
  unfold Rd.raw at h ⊢
  rw [if_neg (show ¬ (⟨b' ++ z, 0⟩ : Rd).e ≠ 0 from fun h => h rfl)] at h ⊢
  rw [if_neg (show ¬ (⟨b', 0⟩ : Rd).e ≠ 0 from fun h => h rfl)]
  dsimp only at h ⊢
  have h1 : (getRaw (b' ++ z)).2.2 = 0 := by
    unfold Rd.take Rd.fail at h
    rw [if_pos (show (⟨b' ++ z, 0⟩ : Rd).e = 0 from rfl)] at h
    dsimp only at h
    split at h
    · rename_i h2; exact absurd h h2
    · rename_i h2; simpa using h2
  have key : (getRaw b').2.2 = 11 ∨ (getRaw b' = getRaw (b' ++ z) ∧ (getRaw b').2.1 ≤ b'.length) := by
    unfold getRaw at h1 ⊢
    split at h1
    · rename_i h2; exact absurd h1 h2
    rename_i h2
    rw [if_neg h2]
    rcases getNum_cut (by simpa using h2) with h3 | ⟨h3, h4⟩
    · left; rw [if_pos (by omega)]; exact h3
    rw [← h3] at h2 h1 ⊢
    rw [if_neg h2]
    split at h1
    · exact absurd h1 (by decide)
    rename_i h5
    rw [if_neg h5, if_neg h5]
    split at h1
    · exact absurd h1 (by decide)
    rename_i h6
    rw [if_neg h6]
    have hn : 0 ≤ (getNum b').1 := by rcases getNum_facts b' with h | h <;> omega
    by_cases h7 : (getNum b').1 > (b'.length : Int) - (getNum b').2.1
    · left; rw [if_pos h7]
    · rw [if_neg h7]
      refine .inr ⟨?_, by dsimp only; omega⟩
      rw [List.drop_append_of_le_length h4, List.take_append_of_le_length (by rw [List.length_drop]; omega)]
  rcases key with h2 | ⟨h2, h3⟩
  · left
    unfold Rd.take Rd.fail
    rw [h2]
    rfl
  · right
    rw [← h2] at h1 ⊢
    rw [h1, take_ok, take_ok]
    exact ⟨rfl, rfl, List.drop_append_of_le_length h3⟩
theorem idsGo_cut {z : List UInt8} : ∀ (n : Nat) {s' s : Rd} (last : Int) (l : List Int), Ct z s' s → (Rd.idsGo n s last l).2.e = 0 → Cm z (Rd.idsGo n s' last l) (Rd.idsGo n s last l) := by
  intro n
  induction n with
  | zero => intro s' s last l hc _; exact .inr ⟨rfl, hc⟩
  | succ n ih =>
    intro s' s last l hc h
    have h0 : s.e = 0 := (idsGo_put _ _ _ _ h).1
    rw [idsGo_ok h0] at h ⊢
    rw [idsGo_ok hc.1]
    have h1 := (idsGo_put _ _ _ _ h).1
    rcases num_cut hc h1 with h2 | ⟨h2, h3⟩
    · exact .inl (idsGo_stuck h2)
    · rw [h2]; exact ih _ _ h3 h
theorem ids_cut {z : List UInt8} {s' s : Rd} (hc : Ct z s' s) (h : s.ids.2.e = 0) : Cm z s'.ids s.ids := by
  have h : (Rd.idsGo (s.num 1 64).1.toNat (s.num 1 64).2 0 []).2.e = 0 := h
  show Cm z (Rd.idsGo (s'.num 1 64).1.toNat (s'.num 1 64).2 0 []) (Rd.idsGo (s.num 1 64).1.toNat (s.num 1 64).2 0 [])
  rcases num_cut hc (idsGo_put _ _ _ _ h).1 with h2 | ⟨h2, h3⟩
  · exact .inl (idsGo_stuck h2)
  · rw [h2]; exact idsGo_cut _ _ _ h3 h
theorem num_e {s : Rd} {lo hi : Int} (h : (s.num lo hi).2.e = 0) : s.e = 0 := (num_put h).1
theorem int_e {s : Rd} {lo hi : Int} (h : (s.int lo hi).2.e = 0) : s.e = 0 := (int_put h).1
theorem ids_e {s : Rd} (h : s.ids.2.e = 0) : s.e = 0 := (ids_put h).1
theorem Cm.map {α β : Type} {z : List UInt8} {r' r : α × Rd} (f : α → β) (h : Cm z r' r) : Cm z (f r'.1, r'.2) (f r.1, r.2) := by
  rcases h with h | ⟨h1, h2⟩
  · exact .inl h
  · exact .inr ⟨congrArg f h1, h2⟩
theorem tail_cut {z : List UInt8} {s' s : Rd} {c : Cmd} (hc : Ct z s' s) (h : (s.tail c).2.e = 0) : Cm z (s'.tail c) (s.tail c) := by
  unfold Rd.tail at h ⊢
  split
  · rename_i hk; rw [if_pos hk] at h
    dsimp only at h ⊢
    refine Cm.bind (fun a t => ({ c with N := a, X := (t.int (-1099511627776) 1099511627776).1, Y := ((t.int (-1099511627776) 1099511627776).2.int (-1099511627776) 1099511627776).1 }, ((t.int (-1099511627776) 1099511627776).2.int (-1099511627776) 1099511627776).2)) (num_cut hc (int_e (int_e h))) (fun _ _ h => int_stuck (int_stuck h)) fun t ht => ?_
    refine Cm.bind (fun a u => ({ c with N := (s.num 0 3).1, X := a, Y := (u.int (-1099511627776) 1099511627776).1 }, (u.int (-1099511627776) 1099511627776).2)) (int_cut ht (int_e h)) (fun _ _ h => int_stuck h) fun u hu => ?_
    exact (int_cut hu h).map (fun a => { c with N := (s.num 0 3).1, X := ((s.num 0 3).2.int (-1099511627776) 1099511627776).1, Y := a })
  rename_i hk; rw [if_neg hk] at h
  split
  · rename_i hk; rw [if_pos hk] at h
    dsimp only at h ⊢
    refine Cm.bind (fun a t => ({ c with U := a, T := (t.num 0 16383).1 }, (t.num 0 16383).2)) (ids_cut hc (num_e h)) (fun _ _ h => num_stuck h) fun t ht => ?_
    exact (num_cut ht h).map (fun a => { c with U := s.ids.1, T := a })
  rename_i hk; rw [if_neg hk] at h
  split
  · rename_i hk; rw [if_pos hk] at h
    dsimp only at h ⊢
    exact (ids_cut hc h).map (fun a => { c with U := a })
  rename_i hk; rw [if_neg hk] at h
  split
  · rename_i hk; rw [if_pos hk] at h
    dsimp only at h ⊢
    refine Cm.bind (fun a t => ({ c with T := a, W := (t.num 1 4).1, H := ((t.num 1 4).2.num 1 4).1 }, ((t.num 1 4).2.num 1 4).2)) (num_cut hc (num_e (num_e h))) (fun _ _ h => num_stuck (num_stuck h)) fun t ht => ?_
    refine Cm.bind (fun a u => ({ c with T := (s.num 0 16383).1, W := a, H := (u.num 1 4).1 }, (u.num 1 4).2)) (num_cut ht (num_e h)) (fun _ _ h => num_stuck h) fun u hu => ?_
    exact (num_cut hu h).map (fun a => { c with T := (s.num 0 16383).1, W := ((s.num 0 16383).2.num 1 4).1, H := a })
  rename_i hk; rw [if_neg hk] at h
  split
  · rename_i hk; rw [if_pos hk] at h
    dsimp only at h ⊢
    exact (num_cut hc h).map (fun a => { c with N := a })
  rename_i hk; rw [if_neg hk] at h
  split
  · rename_i hk; rw [if_pos hk] at h
    dsimp only at h ⊢
    refine Cm.bind (fun a t => ({ c with U := a, N := (t.num 1 1099511627776).1 }, (t.num 1 1099511627776).2)) (ids_cut hc (num_e h)) (fun _ _ h => num_stuck h) fun t ht => ?_
    exact (num_cut ht h).map (fun a => { c with U := s.ids.1, N := a })
  rename_i hk; rw [if_neg hk] at h
  split
  · rename_i hk; rw [if_pos hk] at h
    dsimp only at h ⊢
    refine Cm.bind (fun a t => ({ c with N := a, T := (t.num 0 16383).1 }, (t.num 0 16383).2)) (num_cut hc (num_e h)) (fun _ _ h => num_stuck h) fun t ht => ?_
    exact (num_cut ht h).map (fun a => { c with N := (s.num 1 1099511627776).1, T := a })
  exact .inr ⟨rfl, hc⟩
theorem cmd_cut {z : List UInt8} {s' s : Rd} (hc : Ct z s' s) (h : s.cmd.2.e = 0) : Cm z s'.cmd s.cmd := by
  unfold Rd.cmd at h ⊢
  dsimp only at h ⊢
  have h3 := tail_e h
  have h2 := num_e h3
  have h1 := num_e h2
  refine Cm.bind (fun a t => ((t.num 1 8).2.num 0 1099511627776).2.tail (cmd0 (t.num 1 8).1 ((t.num 1 8).2.num 0 1099511627776).1 a)) (num_cut hc h1) (fun _ _ h => tail_stuck (num_stuck (num_stuck h))) fun t ht => ?_
  refine Cm.bind (fun a u => (u.num 0 1099511627776).2.tail (cmd0 a (u.num 0 1099511627776).1 (s.num 1 7).1)) (num_cut ht h2) (fun _ _ h => tail_stuck (num_stuck h)) fun u hu => ?_
  refine Cm.bind (fun a v => v.tail (cmd0 ((s.num 1 7).2.num 1 8).1 a (s.num 1 7).1)) (num_cut hu h3) (fun _ _ h => tail_stuck h) fun v hv => ?_
  exact tail_cut hv h
theorem cmdsGo_cut {z : List UInt8} {pl : Int} : ∀ (n : Nat) {s' s : Rd} (l : List Cmd), Ct z s' s → (Rd.cmdsGo pl n s l).2.e = 0 → Cm z (Rd.cmdsGo pl n s' l) (Rd.cmdsGo pl n s l) := by
  intro n
  induction n with
  | zero => intro s' s l hc _; exact .inr ⟨rfl, hc⟩
  | succ n ih =>
    intro s' s l hc h
    have h0 : s.e = 0 := (cmdsGo_put _ _ _ _ h).1
    rw [cmdsGo_ok h0] at h ⊢
    rw [cmdsGo_ok hc.1]
    obtain ⟨h1, h2, h3⟩ := must_e (cmdsGo_put _ _ _ _ h).1
    rcases cmd_cut hc h1 with h4 | ⟨h4, h5⟩
    · exact .inl (cmdsGo_stuck (must_stuck h4))
    · rw [h4]
      rw [h3] at h ⊢
      have e : s'.cmd.2.must (nextB pl l s.cmd.1) = s'.cmd.2 := by rw [h2]; rfl
      rw [e]
      exact ih _ h5 h
theorem bytesGo_cut {z : List UInt8} : ∀ (n : Nat) {s' s : Rd} (l : List UInt8), Ct z s' s → (Rd.bytesGo n s l).2.e = 0 → Cm z (Rd.bytesGo n s' l) (Rd.bytesGo n s l) := by
  intro n
  induction n with
  | zero => intro s' s l hc _; exact .inr ⟨rfl, hc⟩
  | succ n ih =>
    intro s' s l hc h
    have h : (Rd.bytesGo n s.byte.2 (l ++ [s.byte.1])).2.e = 0 := h
    show Cm z (Rd.bytesGo n s'.byte.2 (l ++ [s'.byte.1])) (Rd.bytesGo n s.byte.2 (l ++ [s.byte.1]))
    rcases byte_cut hc (bytesGo_put _ _ _ h).1 with h4 | ⟨h4, h5⟩
    · exact .inl (bytesGo_stuck _ h4)
    · rw [h4]; exact ih _ h5 h
end Go.V
/- What is read of bytes that were cut: frames and the whole. -/
namespace Go.V
set_option linter.unusedVariables false

theorem cut_take {z b' b t' t : List UInt8} (h1 : b = b' ++ z) (h2 : t = t' ++ z) (h3 : t'.length ≤ b'.length) : b.take (b.length - t.length) = b'.take (b'.length - t'.length) := by
  subst h1 h2
  rw [List.length_append, List.length_append, show b'.length + z.length - (t'.length + z.length) = b'.length - t'.length by omega]
  exact List.take_append_of_le_length (by omega)

theorem frame_cut {z : List UInt8} {pl sum : Int} {s' s : Rd} (turn : Int) (hc : Ct z s' s) (h : (frRd pl sum s).e = 0) :
    (frRd pl sum s').e = 11 ∨ (frFrm pl s' turn = frFrm pl s turn ∧ frNext pl sum s' = frNext pl sum s ∧ Ct z (frRd pl sum s') (frRd pl sum s)) := by
  have h : ((frHash pl s).2.same (eightL (frSum pl sum s))).e = 0 := h
  have h1 := (same_put _ _ h).1
  have h1' : (Rd.bytesGo 8 (frCmds pl s).2 []).2.e = 0 := h1
  have h2 := (bytesGo_put _ _ _ h1').1
  have h2' : (Rd.cmdsGo pl (s.num 0 512).1.toNat (s.num 0 512).2 []).2.e = 0 := h2
  have h3 := (cmdsGo_put _ _ _ _ h2').1
  have c1 : Cm z (frCmds pl s') (frCmds pl s) := by
    unfold frCmds
    rcases num_cut hc h3 with h4 | ⟨h4, h5⟩
    · exact .inl (cmdsGo_stuck h4)
    · rw [h4]; exact cmdsGo_cut _ _ h5 h2'
  have c2 : Cm z (frHash pl s') (frHash pl s) := by
    unfold frHash
    rcases c1 with h4 | ⟨_, h5⟩
    · exact .inl (bytesGo_stuck _ h4)
    · exact bytesGo_cut _ _ h5 h1'
  rcases c2 with h4 | ⟨h4, h5⟩
  · exact .inl (same_stuck _ h4)
  rcases c1 with h6 | ⟨h6, h7⟩
  · left
    have : (frHash pl s').2.e = 11 := bytesGo_stuck _ h6
    exact same_stuck _ this
  have e1 : frSum pl sum s' = frSum pl sum s := by
    unfold frSum
    rw [cut_take hc.2 h5.2 (frHash_len pl s').1]
  have e2 : frFrm pl s' turn = frFrm pl s turn := by unfold frFrm; rw [h4, h6]
  have e3 : frNext pl sum s' = frNext pl sum s := by unfold frNext; rw [e1]
  rcases same_cut (eightL (frSum pl sum s)) h5 h with h8 | h8
  · left
    show ((frHash pl s').2.same (eightL (frSum pl sum s'))).e = 11
    rw [e1]; exact h8
  · right
    refine ⟨e2, e3, ?_⟩
    show Ct z ((frHash pl s').2.same (eightL (frSum pl sum s'))) ((frHash pl s).2.same (eightL (frSum pl sum s)))
    rw [e1]; exact h8

theorem framesGo_app (pl : Int) : ∀ (n : Nat) (s : Rd) (sum : Int) (l : List Frm), ∃ m, (framesGo pl n s sum l).1 = l ++ m := by
  intro n
  induction n with
  | zero => intro s sum l; exact ⟨[], by rw [framesGo]; simp⟩
  | succ n ih =>
    intro s sum l
    rw [framesGo]
    split
    · exact ⟨[], by simp⟩
    split
    · exact ⟨[], by simp⟩
    split
    · exact ⟨[], by simp⟩
    obtain ⟨m, hm⟩ := ih (frRd pl sum (s.must (decide (l.length < 4096)))) (frNext pl sum (s.must (decide (l.length < 4096)))) (l ++ [frFrm pl (s.must (decide (l.length < 4096))) l.length])
    exact ⟨frFrm pl (s.must (decide (l.length < 4096))) l.length :: m, by rw [hm]; simp⟩

theorem framesGo_cut {z : List UInt8} (pl : Int) : ∀ (n : Nat) (s' s : Rd) (sum : Int) (l : List Frm), Ct z s' s → (framesGo pl n s sum l).2.e = 0 →
    ((framesGo pl n s' sum l).2.e = 0 ∨ (framesGo pl n s' sum l).2.e = 11) ∧ ∃ m, (framesGo pl n s sum l).1 = (framesGo pl n s' sum l).1 ++ m := by
  intro n
  induction n with
  | zero => intro s' s sum l hc _; rw [framesGo, framesGo]; exact ⟨.inl hc.1, [], by simp⟩
  | succ n ih =>
    intro s' s sum l hc h
    have happ := framesGo_app pl (n + 1) s sum l
    by_cases h0 : s'.b.length = 0
    · have e : framesGo pl (n + 1) s' sum l = (l, s') := by rw [framesGo, if_pos h0]
      rw [e]
      exact ⟨.inl hc.1, happ⟩
    · have h1 : ¬ s.b.length = 0 := by rw [hc.2, List.length_append]; omega
      have es : framesGo pl (n + 1) s sum l = if (s.must (decide (l.length < 4096))).e ≠ 0 then (l, s.must (decide (l.length < 4096))) else
          if (frRd pl sum (s.must (decide (l.length < 4096)))).e ≠ 0 then (l, frRd pl sum (s.must (decide (l.length < 4096)))) else
          framesGo pl n (frRd pl sum (s.must (decide (l.length < 4096)))) (frNext pl sum (s.must (decide (l.length < 4096)))) (l ++ [frFrm pl (s.must (decide (l.length < 4096))) l.length]) := by
        rw [framesGo, if_neg h1]
      by_cases h2 : (s.must (decide (l.length < 4096))).e = 0
      · obtain ⟨h3, h4, h5⟩ := must_e h2
        rw [if_neg (by simpa using h2), h5] at es
        by_cases h6 : (frRd pl sum s).e = 0
        · rw [if_neg (by simpa using h6)] at es
          have em : s'.must (decide (l.length < 4096)) = s' := by rw [h4]; rfl
          have es' : framesGo pl (n + 1) s' sum l = if (frRd pl sum s').e ≠ 0 then (l, frRd pl sum s') else
              framesGo pl n (frRd pl sum s') (frNext pl sum s') (l ++ [frFrm pl s' l.length]) := by
            rw [framesGo, if_neg h0, em, if_neg (by rw [hc.1]; simp)]
          rcases frame_cut l.length hc h6 with h7 | ⟨h7, h8, h9⟩
          · rw [if_pos (by rw [h7]; decide)] at es'
            rw [es']
            exact ⟨.inr h7, happ⟩
          · rw [if_neg (by rw [h9.1]; simp), h7, h8] at es'
            rw [es'] 
            rw [es] at h ⊢
            exact ih _ _ _ _ h9 h
        · rw [if_pos h6] at es
          rw [es] at h
          exact absurd h h6
      · rw [if_pos h2] at es
        rw [es] at h
        exact absurd h h2

set_option maxRecDepth 20000 in
theorem repParse_cut {b' z : List UInt8} (h : (repParse (b' ++ z)).2 = 0) :
    ((repParse b').2 = 0 ∨ (repParse b').2 = 11) ∧ ∃ m, (repParse (b' ++ z)).1.F = (repParse b').1.F ++ m := by
  have hlen : ¬ (b' ++ z).length > 1048576 := fun hx => by
    unfold repParse at h
    rw [if_pos hx] at h
    exact absurd h (show ¬ (1 : Int) = 0 by decide)
  have hgnd : (rpGnd (b' ++ z)).2.e = 0 := by
    unfold repParse at h
    rw [if_neg hlen] at h
    by_cases hx : (rpGnd (b' ++ z)).2.e = 0
    · exact hx
    · rw [if_pos hx] at h; exact absurd h hx
  have eB : repParse (b' ++ z) = (⟨(rpHead (b' ++ z)).1, (rpGnd (b' ++ z)).1, (rpFrames (b' ++ z)).1⟩, (rpFrames (b' ++ z)).2.e) := by
    unfold repParse
    rw [if_neg hlen, if_neg (by simpa using hgnd)]
  have hlen' : ¬ b'.length > 1048576 := by rw [List.length_append] at hlen; omega
  have hraw : (rpRaw (b' ++ z)).2.e = 0 := by
    by_cases hr : (rpRaw (b' ++ z)).2.e = 0
    · exact hr
    · unfold rpGnd at hgnd; rw [if_neg hr] at hgnd; exact hgnd
  have eG : rpGnd (b' ++ z) = ((mapParse (rpRaw (b' ++ z)).1).1, (rpRaw (b' ++ z)).2.must (decide ((mapParse (rpRaw (b' ++ z)).1).2 = 0))) := by unfold rpGnd; rw [if_pos hraw]
  have hgnd2 := hgnd
  rw [eG] at hgnd2
  dsimp only at hgnd2
  obtain ⟨_, hok, hmust⟩ := must_e hgnd2
  have hhead : (rpHead (b' ++ z)).2.e = 0 := (raw_put (s := (rpHead (b' ++ z)).2) hraw).1
  have hsame : (Rd.same ⟨b' ++ z, 0⟩ [84, 82]).e = 0 := num_e (s := Rd.same ⟨b' ++ z, 0⟩ [84, 82]) hhead
  have c0 : (rpRaw b').2.e = 11 ∨ ((rpHead b').1 = (rpHead (b' ++ z)).1 ∧ (rpRaw b').1 = (rpRaw (b' ++ z)).1 ∧ Ct z (rpRaw b').2 (rpRaw (b' ++ z)).2) := by
    unfold rpRaw
    rcases same_cut (z := z) [84, 82] (s' := ⟨b', 0⟩) (s := ⟨b' ++ z, 0⟩) ⟨rfl, rfl⟩ hsame with h1 | h1
    · left
      have h2 : (rpHead b').2.e = 11 := num_stuck h1
      exact raw_stuck h2
    · rcases num_cut (lo := 1) (hi := 8) h1 hhead with h2 | ⟨h2, h3⟩
      · left
        have h2 : (rpHead b').2.e = 11 := h2
        exact raw_stuck h2
      · have h3 : Ct z (rpHead b').2 (rpHead (b' ++ z)).2 := h3
        rcases raw_cut h3 hraw with h4 | ⟨h4, h5⟩
        · exact .inl h4
        · exact .inr ⟨h2, h4, h5⟩
  rcases c0 with h1 | ⟨h1, h2, h3⟩
  · have e1 : (rpGnd b').2.e = 11 := by unfold rpGnd; rw [if_neg (by rw [h1]; decide)]; exact h1
    have e2 : repParse b' = (rep0, 11) := by unfold repParse; rw [if_neg hlen', if_pos (by rw [e1]; decide), e1]
    rw [e2]
    refine ⟨.inr rfl, (repParse (b' ++ z)).1.F, ?_⟩
    generalize (repParse (b' ++ z)).1.F = w
    exact (List.nil_append w).symm
  · have e1 : rpGnd b' = ((rpGnd (b' ++ z)).1, (rpRaw b').2) := by
      have e0 := congrArg Prod.fst eG
      dsimp only at e0
      rw [e0]
      unfold rpGnd
      rw [if_pos h3.1, h2, hok, must_ok]
    have e2 : (rpGnd (b' ++ z)).2 = (rpRaw (b' ++ z)).2 := by
      have := congrArg Prod.snd eG
      dsimp only at this
      exact this.trans hmust
    have e3 : repParse b' = (⟨(rpHead b').1, (rpGnd b').1, (rpFrames b').1⟩, (rpFrames b').2.e) := by
      unfold repParse
      rw [if_neg hlen', if_neg (by rw [e1]; simpa using h3.1)]
    have e4 : (rpGnd b').2 = (rpRaw b').2 := by rw [e1]
    have hF : (rpFrames (b' ++ z)).2.e = 0 := by
      rw [eB] at h
      dsimp only at h
      exact h
    have key : ((rpFrames b').2.e = 0 ∨ (rpFrames b').2.e = 11) ∧ ∃ m, (rpFrames (b' ++ z)).1 = (rpFrames b').1 ++ m := by
      unfold rpFrames at hF ⊢
      rw [e4, h1]
      rw [e2] at hF ⊢
      rw [cut_take rfl h3.2 (rpRaw_len b').1] at hF ⊢
      exact framesGo_cut _ _ _ _ _ _ h3 hF
    rw [eB, e3]
    dsimp only
    exact key
end Go.V
/- The other way to read: a place in the bytes, and what is wrong; once something is, nothing moves: no program in sight. -/
namespace Go.V
set_option linter.unusedVariables false

/-- The place 'a' in 'B' is where the reader 's' stands, as long as nothing is wrong. -/
def Stands (B : List UInt8) (a : Nat) (s : Rd) : Prop := a ≤ B.length ∧ (s.e = 0 → s.b = B.drop a)
theorem Stands.start (B : List UInt8) : Stands B 0 ⟨B, 0⟩ := ⟨Nat.zero_le _, fun _ => rfl⟩
theorem Stands.bad {B : List UInt8} {a : Nat} {s s' : Rd} (h : Stands B a s) (he : s'.e ≠ 0) : Stands B a s' := ⟨h.1, fun h => absurd h he⟩
theorem Stands.eta {B : List UInt8} {a : Nat} {s : Rd} (h : Stands B a s) (he : s.e = 0) : s = ⟨B.drop a, 0⟩ := by
  obtain ⟨b, e⟩ := s
  have e0 : e = 0 := he
  have := h.2 he
  rw [e0]
  simp only at this
  rw [this]
theorem Stands.go {B : List UInt8} {a k : Nat} {s : Rd} (h : Stands B a s) (he : s.e = 0) (hk : k ≤ s.b.length) : Stands B (a + k) ⟨s.b.drop k, 0⟩ := by
  have h2 := h.2 he
  refine ⟨?_, fun _ => ?_⟩
  · rw [h2, List.length_drop] at hk; have := h.1; omega
  · simp only; rw [h2, List.drop_drop]

def Rd.numR (s : Rd) (lo hi : Int) : Int := if (s.num lo hi).2.e = 0 then (s.num lo hi).1 else 0
def Rd.intR (s : Rd) (lo hi : Int) : Int := if (s.int lo hi).2.e = 0 then (s.int lo hi).1 else 0
theorem numR_ok {s : Rd} {lo hi : Int} (h : (s.num lo hi).2.e = 0) : s.numR lo hi = (s.num lo hi).1 := by unfold Rd.numR; rw [if_pos h]
theorem intR_ok {s : Rd} {lo hi : Int} (h : (s.int lo hi).2.e = 0) : s.intR lo hi = (s.int lo hi).1 := by unfold Rd.intR; rw [if_pos h]
theorem numR_bad {s : Rd} {lo hi : Int} (h : (s.num lo hi).2.e ≠ 0) : s.numR lo hi = 0 := by unfold Rd.numR; rw [if_neg h]
theorem numR_bd (s : Rd) (lo hi : Int) : 0 ≤ s.numR lo hi ∧ (s.numR lo hi ≤ hi ∨ s.numR lo hi = 0) := by
  unfold Rd.numR
  by_cases h : (s.num lo hi).2.e = 0
  · rw [if_pos h]
    have := num_I64 s lo hi
    have := (num_put h).2.2
    omega
  · rw [if_neg h]; exact ⟨Int.le_refl _, .inr rfl⟩

theorem got_stick {s : Rd} {g : Int × Nat × Int} {lo hi : Int} (h : s.e ≠ 0) : s.got g lo hi = (0, s) := by unfold Rd.got; rw [if_pos h]
theorem num_stick {s : Rd} {lo hi : Int} (h : s.e ≠ 0) : s.num lo hi = (0, s) := got_stick h
theorem int_stick {s : Rd} {lo hi : Int} (h : s.e ≠ 0) : s.int lo hi = (0, s) := got_stick h
theorem must_stick {s : Rd} {ok : Bool} (h : s.e ≠ 0) : s.must ok = s := by unfold Rd.must Rd.fail; rw [if_neg h]; cases ok <;> rfl
theorem byte_stick {s : Rd} (h : s.e ≠ 0) : s.byte = (0, s) := by unfold Rd.byte; rw [if_pos h]
theorem same_stick : ∀ (l : List UInt8) {s : Rd}, s.e ≠ 0 → s.same l = s := by
  intro l
  induction l with
  | nil => intro s _; rfl
  | cons c l ih =>
    intro s h
    show Rd.same (s.byte.2.must (s.byte.1 == c)) l = s
    rw [byte_stick h]
    simp only
    rw [must_stick h]
    exact ih h
theorem raw_stick {s : Rd} (h : s.e ≠ 0) : s.raw = ([], s) := by unfold Rd.raw; rw [if_pos h]
theorem idsGo_stick {n : Nat} {s : Rd} {last : Int} {l : List Int} (h : s.e ≠ 0) : Rd.idsGo n s last l = (l, s) := idsGo_bad h
theorem ids_stick {s : Rd} (h : s.e ≠ 0) : s.ids = ([], s) := by
  unfold Rd.ids
  rw [num_stick h]
  exact idsGo_stick h
theorem tail_stick {s : Rd} {c : Cmd} (h : s.e ≠ 0) : (s.tail c).2 = s := by
  unfold Rd.tail
  simp only [num_stick h, int_stick h, ids_stick h]
  repeat' split
  all_goals rfl
theorem cmd_stick {s : Rd} (h : s.e ≠ 0) : s.cmd.2 = s := by
  unfold Rd.cmd
  simp only [num_stick h]
  exact tail_stick h
theorem bytesGo_stick : ∀ (n : Nat) {s : Rd} {l : List UInt8}, s.e ≠ 0 → (Rd.bytesGo n s l).2 = s := by
  intro n
  induction n with
  | zero => intro s l _; rfl
  | succ n ih =>
    intro s l h
    unfold Rd.bytesGo
    rw [byte_stick h]
    exact ih h
theorem cmdsGo_stick {pl : Int} {n : Nat} {s : Rd} {l : List Cmd} (h : s.e ≠ 0) : Rd.cmdsGo pl n s l = (l, s) := cmdsGo_bad h

/-- A number: what it does to a place. -/
theorem num_step {B : List UInt8} {a : Nat} {s : Rd} {lo hi : Int} (h : Stands B a s) (he : s.e = 0) :
    ((s.num lo hi).2.e = 0 ∧ (getNum (B.drop a)).2.2 = 0 ∧ lo ≤ (getNum (B.drop a)).1 ∧ (getNum (B.drop a)).1 ≤ hi ∧ s.numR lo hi = (getNum (B.drop a)).1 ∧ Stands B (a + (getNum (B.drop a)).2.1) (s.num lo hi).2) ∨
    ((s.num lo hi).2.e ≠ 0 ∧ s.numR lo hi = 0 ∧ ((getNum (B.drop a)).2.2 ≠ 0 ∧ (s.num lo hi).2.e = (getNum (B.drop a)).2.2 ∨ (getNum (B.drop a)).2.2 = 0 ∧ ¬ (lo ≤ (getNum (B.drop a)).1 ∧ (getNum (B.drop a)).1 ≤ hi) ∧ (s.num lo hi).2.e = 1)) := by
  have hs := h.eta he
  have hf := getNum_facts (B.drop a)
  by_cases h1 : (s.num lo hi).2.e = 0
  · left
    have h2 := got_e h1
    rw [hs] at h2
    simp only at h2
    refine ⟨h1, h2.2.1, h2.2.2.2.2.1, h2.2.2.2.2.2, ?_, ?_⟩
    · rw [numR_ok h1, hs]; exact h2.2.2.1
    · have h3 := h.go he (k := (getNum (B.drop a)).2.1) (by rw [h.2 he]; omega)
      have h4 : (s.num lo hi).2 = ⟨s.b.drop (getNum (B.drop a)).2.1, 0⟩ := by
        have := h2.2.2.2.1
        rw [h.2 he]
        rw [hs]
        exact this
      rw [h4]; exact h3
  · right
    refine ⟨h1, numR_bad h1, ?_⟩
    by_cases h2 : (getNum (B.drop a)).2.2 = 0
    · right
      have e : s.num lo hi = ((getNum (B.drop a)).1, Rd.must ⟨(B.drop a).drop (getNum (B.drop a)).2.1, 0⟩ (inB (getNum (B.drop a)).1 lo hi)) := by
        rw [hs]
        unfold Rd.num Rd.got
        rw [if_neg (by simp)]
        unfold Rd.take Rd.fail
        simp [h2]
      rw [e] at h1 ⊢
      simp only at h1 ⊢
      have hb : inB (getNum (B.drop a)).1 lo hi = false := by
        cases hb : inB (getNum (B.drop a)).1 lo hi with
        | false => rfl
        | true => rw [hb] at h1; exact absurd rfl h1
      refine ⟨h2, ?_, ?_⟩
      · unfold inB at hb; simpa using hb
      · rw [hb]; rfl
    · left
      refine ⟨h2, ?_⟩
      have e : s.num lo hi = (0, Rd.must ⟨B.drop a, (getNum (B.drop a)).2.2⟩ (inB 0 lo hi)) := by
        rw [hs]
        unfold Rd.num Rd.got
        rw [if_neg (by simp)]
        unfold Rd.take Rd.fail
        simp [h2]
      rw [e]
      simp only
      rw [must_stick (by exact h2)]
theorem int_step {B : List UInt8} {a : Nat} {s : Rd} {lo hi : Int} (h : Stands B a s) (he : s.e = 0) :
    ((s.int lo hi).2.e = 0 ∧ (getNum (B.drop a)).2.2 = 0 ∧ lo ≤ zig (getNum (B.drop a)).1 ∧ zig (getNum (B.drop a)).1 ≤ hi ∧ s.intR lo hi = zig (getNum (B.drop a)).1 ∧ Stands B (a + (getNum (B.drop a)).2.1) (s.int lo hi).2) ∨
    ((s.int lo hi).2.e ≠ 0 ∧ s.intR lo hi = 0 ∧ ((getNum (B.drop a)).2.2 ≠ 0 ∧ (s.int lo hi).2.e = (getNum (B.drop a)).2.2 ∨ (getNum (B.drop a)).2.2 = 0 ∧ ¬ (lo ≤ zig (getNum (B.drop a)).1 ∧ zig (getNum (B.drop a)).1 ≤ hi) ∧ (s.int lo hi).2.e = 1)) := by
  have hs := h.eta he
  have hf := getNum_facts (B.drop a)
  by_cases h1 : (s.int lo hi).2.e = 0
  · left
    have h2 := got_e h1
    rw [hs] at h2
    simp only [getInt] at h2
    refine ⟨h1, h2.2.1, h2.2.2.2.2.1, h2.2.2.2.2.2, ?_, ?_⟩
    · rw [intR_ok h1, hs]; exact h2.2.2.1
    · have h3 := h.go he (k := (getNum (B.drop a)).2.1) (by rw [h.2 he]; omega)
      have h4 : (s.int lo hi).2 = ⟨s.b.drop (getNum (B.drop a)).2.1, 0⟩ := by
        have := h2.2.2.2.1
        rw [h.2 he]
        rw [hs]
        exact this
      rw [h4]; exact h3
  · right
    refine ⟨h1, by unfold Rd.intR; rw [if_neg h1], ?_⟩
    by_cases h2 : (getNum (B.drop a)).2.2 = 0
    · right
      have e : s.int lo hi = (zig (getNum (B.drop a)).1, Rd.must ⟨(B.drop a).drop (getNum (B.drop a)).2.1, 0⟩ (inB (zig (getNum (B.drop a)).1) lo hi)) := by
        rw [hs]
        unfold Rd.int Rd.got getInt
        rw [if_neg (by simp)]
        unfold Rd.take Rd.fail
        simp [h2]
      rw [e] at h1 ⊢
      simp only at h1 ⊢
      have hb : inB (zig (getNum (B.drop a)).1) lo hi = false := by
        cases hb : inB (zig (getNum (B.drop a)).1) lo hi with
        | false => rfl
        | true => rw [hb] at h1; exact absurd rfl h1
      refine ⟨h2, ?_, ?_⟩
      · unfold inB at hb; simpa using hb
      · rw [hb]; rfl
    · left
      refine ⟨h2, ?_⟩
      have e : s.int lo hi = (0, Rd.must ⟨B.drop a, (getNum (B.drop a)).2.2⟩ (inB 0 lo hi)) := by
        rw [hs]
        unfold Rd.int Rd.got getInt
        rw [if_neg (by simp)]
        unfold Rd.take Rd.fail
        simp [h2]
      rw [e]
      simp only
      rw [must_stick (by exact h2)]

theorem byte_at {B : List UInt8} {a : Nat} {s : Rd} (h : Stands B a s) (he : s.e = 0) (hlt : a < B.length) : s.byte = (B[a], ⟨B.drop (a + 1), 0⟩) := by
  rw [h.eta he, List.drop_eq_getElem_cons hlt]; rfl
theorem byte_end {B : List UInt8} {a : Nat} {s : Rd} (h : Stands B a s) (he : s.e = 0) (hge : ¬ a < B.length) : s.byte = (0, ⟨[], 11⟩) := by
  rw [h.eta he, List.drop_eq_nil_of_le (by omega)]; rfl

/-- A number from 1 to 128. -/
def sideR (b : List UInt8) : Int × Nat × Int := if (getNum b).2.2 = 0 ∧ ((getNum b).1 < 1 ∨ (getNum b).1 > 128) then (0, 0, 1) else getNum b
theorem side_step {B : List UInt8} {a : Nat} {s : Rd} (h : Stands B a s) (he : s.e = 0) :
    ((s.num 1 128).2.e = 0 ∧ (sideR (B.drop a)).2.2 = 0 ∧ (s.num 1 128).1 = (sideR (B.drop a)).1 ∧ Stands B (a + (sideR (B.drop a)).2.1) (s.num 1 128).2 ∧ 1 ≤ (sideR (B.drop a)).1 ∧ (sideR (B.drop a)).1 ≤ 128) ∨
    ((s.num 1 128).2.e ≠ 0 ∧ (sideR (B.drop a)).2.2 = (s.num 1 128).2.e) := by
  rcases num_step (lo := 1) (hi := 128) h he with ⟨h1, h2, h3, h4, h5, h6⟩ | ⟨h1, h5, ⟨h2, h3⟩ | ⟨h2, h3, h4⟩⟩
  · left
    have e : sideR (B.drop a) = getNum (B.drop a) := by unfold sideR; rw [if_neg (by omega)]
    rw [e]
    exact ⟨h1, h2, (numR_ok h1).symm.trans h5, h6, h3, h4⟩
  · right
    have e : sideR (B.drop a) = getNum (B.drop a) := by unfold sideR; rw [if_neg (by omega)]
    rw [e]
    exact ⟨h1, h3.symm⟩
  · right
    have e : sideR (B.drop a) = (0, 0, 1) := by unfold sideR; rw [if_pos ⟨h2, by omega⟩]
    rw [e]
    exact ⟨h1, h4.symm⟩
theorem sideR_le (b : List UInt8) : (sideR b).2.1 ≤ b.length ∧ (sideR b).2.1 ≤ 9 := by
  have hf := getNum_facts b
  unfold sideR
  split
  · simp
  · omega
theorem same_bad {s : Rd} {l : List UInt8} {i : Nat} (h : (s.same (l.take i)).e ≠ 0) : s.same l = s.same (l.take i) := by
  have e : s.same l = (s.same (l.take i)).same (l.drop i) := by
    unfold Rd.same
    rw [← List.foldl_append, List.take_append_drop]
  rw [e]
  exact same_stick _ h
theorem fin_stick {s : Rd} (h : s.e ≠ 0) : s.fin = s := must_stick h
theorem mapSum_tiles {b : List UInt8} (h : (mapTiles b).2.e ≠ 0) : (mapSum b).e = (mapTiles b).2.e := by
  unfold mapSum; rw [same_stick _ h, fin_stick h]
theorem mapSum_side {b : List UInt8} (h : (mapSide b).2.e ≠ 0) : (mapSum b).e = (mapSide b).2.e := by
  have e : mapTiles b = ([], (mapSide b).2) := by unfold mapTiles; exact tilesGo_bad h
  have := mapSum_tiles (b := b) (by rw [e]; exact h)
  rw [this, e]
theorem mapSum_head {b : List UInt8} (h : (mapHead b).2.e ≠ 0) : (mapSum b).e = (mapHead b).2.e := by
  have e : mapSide b = (0, (mapHead b).2) := by unfold mapSide; exact num_stick h
  have := mapSum_side (b := b) (by rw [e]; exact h)
  rw [this, e]
theorem mapSum_sign {b : List UInt8} (h : (Rd.same ⟨b, 0⟩ [84, 71]).e ≠ 0) : (mapSum b).e = (Rd.same ⟨b, 0⟩ [84, 71]).e := by
  have e : mapHead b = (0, Rd.same ⟨b, 0⟩ [84, 71]) := by unfold mapHead; exact num_stick h
  have := mapSum_head (b := b) (by rw [e]; exact h)
  rw [this, e]
theorem mapParse_bad {b : List UInt8} {e : Int} (h : (mapSum b).e = e) (he : e ≠ 0) : mapParse b = (⟨0, 0, []⟩, e) := by
  unfold mapParse; rw [h, if_pos he]
theorem Stands.at {B : List UInt8} {a : Nat} {s : Rd} (h : Stands B a s) (he : s.e = 0) : B.length - s.b.length = a := by
  rw [h.2 he, List.length_drop]; have := h.1; omega

/-- A command of bytes, its bytes, the error. -/
def cmdZ : Cmd := ⟨0, 0, 0, 0, [], 0, 0, 0, 0, 0⟩
def cmdOut (b : List UInt8) (r : Cmd × Rd) : Cmd × Nat × Int := if r.2.e = 0 then (r.1, b.length - r.2.b.length, 0) else (cmdZ, 0, r.2.e)
def cmdRef (b : List UInt8) : Cmd × Nat × Int := cmdOut b (Rd.cmd ⟨b, 0⟩)
/-- A map of bytes with how many they are ahead. -/
def gndR (s : Rd) : Gnd × Rd := if s.raw.2.e = 0 then ((mapParse s.raw.1).1, s.raw.2.must (decide ((mapParse s.raw.1).2 = 0))) else (⟨0, 0, []⟩, s.raw.2)
theorem rpGnd_R (b : List UInt8) : rpGnd b = gndR (rpHead b).2 := rfl
theorem gndR_stick {s : Rd} (h : s.e ≠ 0) : (gndR s).2 = s := by
  unfold gndR
  rw [raw_stick h, if_neg h]
theorem frRd_stick {pl sum : Int} {s : Rd} (h : s.e ≠ 0) : frRd pl sum s = s := by
  have h1 : (frCmds pl s).2 = s := by unfold frCmds; rw [num_stick h]; rfl
  have h2 : (frHash pl s).2 = s := by unfold frHash; rw [h1]; exact bytesGo_stick 8 h
  unfold frRd
  rw [h2]
  exact same_stick _ h
theorem getRaw_len (b : List UInt8) : (getRaw b).1.length ≤ b.length := by
  unfold getRaw
  repeat' split
  all_goals simp
  omega
theorem raw_step {B : List UInt8} {a : Nat} {s : Rd} (h : Stands B a s) (he : s.e = 0) :
    ((getRaw (B.drop a)).2.2 = 0 ∧ s.raw.1 = (getRaw (B.drop a)).1 ∧ s.raw.2.e = 0 ∧ Stands B (a + (getRaw (B.drop a)).2.1) s.raw.2) ∨
    ((getRaw (B.drop a)).2.2 ≠ 0 ∧ s.raw.2.e = (getRaw (B.drop a)).2.2) := by
  have hs := h.eta he
  by_cases h1 : (getRaw (B.drop a)).2.2 = 0
  · left
    have e : s.raw = ((getRaw (B.drop a)).1, ⟨(B.drop a).drop (getRaw (B.drop a)).2.1, 0⟩) := by
      rw [hs]
      unfold Rd.raw Rd.take Rd.fail
      simp [h1]
    rw [e]
    refine ⟨h1, rfl, rfl, ?_⟩
    have := h.go he (k := (getRaw (B.drop a)).2.1) (by rw [h.2 he]; exact getRaw_le h1)
    rw [h.2 he] at this
    exact this
  · right
    have e : s.raw = ((getRaw (B.drop a)).1, ⟨B.drop a, (getRaw (B.drop a)).2.2⟩) := by
      rw [hs]
      unfold Rd.raw Rd.take Rd.fail
      simp [h1]
    rw [e]
    exact ⟨h1, rfl⟩
theorem Stands.suffix {B : List UInt8} {a : Nat} {s s' : Rd} {x : List UInt8} (h : Stands B a s) (he : s.e = 0) (hx : s.b = x ++ s'.b) : Stands B (a + ((B.drop a).length - s'.b.length)) s' := by
  have h2 := h.2 he
  have h3 := congrArg List.length hx
  rw [h2, List.length_append] at h3
  have h4 := h.1
  refine ⟨by rw [List.length_drop] at *; omega, fun _ => ?_⟩
  rw [← List.drop_drop, ← h2, hx, List.length_append, Nat.add_sub_cancel, List.drop_left]
theorem cmdRef_step {B : List UInt8} {a : Nat} {s : Rd} (h : Stands B a s) (he : s.e = 0) :
    (s.cmd.2.e = 0 ∧ cmdRef (B.drop a) = (s.cmd.1, (B.drop a).length - s.cmd.2.b.length, 0) ∧ Stands B (a + ((B.drop a).length - s.cmd.2.b.length)) s.cmd.2) ∨
    (s.cmd.2.e ≠ 0 ∧ cmdRef (B.drop a) = (cmdZ, 0, s.cmd.2.e)) := by
  have hs := h.eta he
  by_cases h1 : s.cmd.2.e = 0
  · left
    refine ⟨h1, ?_, h.suffix he (cmd_put h1).2.1⟩
    unfold cmdRef cmdOut
    rw [← hs, if_pos h1]
  · right
    refine ⟨h1, ?_⟩
    unfold cmdRef cmdOut
    rw [← hs, if_neg h1]
theorem frCmds_e {pl : Int} {s : Rd} (h : (frHash pl s).2.e = 0) : (frCmds pl s).2.e = 0 := by
  unfold frHash at h
  exact (bytesGo_put _ _ _ h).1
theorem frRd_e {pl sum : Int} {s : Rd} (h : (frRd pl sum s).e = 0) : (frHash pl s).2.e = 0 := by
  unfold frRd at h
  exact (same_put _ _ h).1
theorem frSum_at {B : List UInt8} {a0 a : Nat} {s : Rd} {pl sum : Int} (h : Stands B a0 s) (he : s.e = 0) (hs : sum = fnvSum fnvStart (B.take a0)) (hu : Stands B a (frHash pl s).2) (hue : (frHash pl s).2.e = 0) :
    fnvSum fnvStart (B.take a) = frSum pl sum s := by
  unfold frSum
  have h1 := frHash_len pl s
  rw [h.2 he, hu.2 hue, List.length_drop, List.length_drop] at h1
  have h2 := h.1
  have h3 := hu.1
  rw [hs, ← fnvSum_app, h.2 he, hu.2 hue, List.length_drop, List.length_drop]
  have e : B.take a0 ++ (B.drop a0).take (B.length - a0 - (B.length - a)) = B.take a := by
    rw [show B.length - a0 - (B.length - a) = a - a0 by omega, ← List.take_add, show a0 + (a - a0) = a by omega]
  rw [e]
end Go.V
